/- Texts that this law leans on, several in one; written by programs of these sessions (print, wip/deep, gather.py). -/
import Derived.Test.YtlmkkmoammgjdaaHa3
import Derived.Test.YtlmkkmoammgjdaaRows
import Derived.WalkKit
import Derived.ProofKit
import Derived.OpenShut
import Derived.ShutString
import Derived.ChangeOld
import Derived.Below
import Derived.SizedLaws
import Derived.Deep.Slices
import Derived.ChangeArms
import Derived.DataReads
namespace Go.Proofs.Ytlmkkmoammgjdaa.P
open Go.RowKit Go.Proofs.YtlmkkmoammgjdaaW.PrintWords Go.Proofs.YtlmkkmoammgjdaaW.PrintLast Go.Proofs.YtlmkkmoammgjdaaW.PrintMore
attribute [local go_sem] max2_int min2_int max_two min_two max_three min_three max_four min_four
set_option linter.unusedVariables false
set_option linter.unusedSimpArgs false
def laws_eqChecker.f (k : Nat) (a0_0 : Int) (a0_1 : Int) (l0_2 : List Bool) (l0_3 : List (List (S92))) (l0_4 : List (List (List Int))) (l0_5 : List (List Int)) (a1_0 : Int) (a1_1 : Int) (l1_2 : List Bool) (l1_3 : List (List (S92))) (l1_4 : List (List (List Int))) (l1_5 : List (List Int)) : Option (Bool) := if a0_0 = a1_0 then (if a0_1 = a1_1 then ((laws_eqBoolS.f k l0_2 l1_2).bind fun t314 => (if t314 = true then ((laws_eqPushSS.f k l0_3 l1_3).bind fun t315 => (if t315 = true then ((laws_eqInt64SSS.f k l0_4 l1_4).bind fun t316 => (if t316 = true then ((laws_eqInt64SS.f k l0_5 l1_5).bind fun t317 => (if t317 = true then (some true) else (some false))) else (some false))) else (some false))) else (some false))) else (some false)) else (some false)
set_option maxHeartbeats 8000000 in
set_option maxRecDepth 100000 in
theorem laws_eqChecker.calls (k : Nat) (a0_0 : Int) (a0_1 : Int) (A0_2 : Option Addr) (c0_2 : Nat) (l0_2 : List Bool) (A0_3 : Option Addr) (c0_3 : Nat) (l0_3 : List (List (S92))) (A0_4 : Option Addr) (c0_4 : Nat) (l0_4 : List (List (List Int))) (A0_5 : Option Addr) (c0_5 : Nat) (l0_5 : List (List Int)) (a1_0 : Int) (a1_1 : Int) (A1_2 : Option Addr) (c1_2 : Nat) (l1_2 : List Bool) (A1_3 : Option Addr) (c1_3 : Nat) (l1_3 : List (List (S92))) (A1_4 : Option Addr) (c1_4 : Nat) (l1_4 : List (List (List Int))) (A1_5 : Option Addr) (c1_5 : Nat) (l1_5 : List (List Int)) (r : Bool) (w : World) (hr0_2 : Kd.C Kd.bool w A0_2 l0_2.length l0_2) (hc0_2 : l0_2.length ≤ c0_2) (hr0_3 : Kd.C (Kd.slice 92 k92) w A0_3 l0_3.length l0_3) (hc0_3 : l0_3.length ≤ c0_3) (hr0_4 : Kd.C (Kd.slice 60 (Kd.slice 2 (Kd.int .i64))) w A0_4 l0_4.length l0_4) (hc0_4 : l0_4.length ≤ c0_4) (hr0_5 : Kd.C (Kd.slice 2 (Kd.int .i64)) w A0_5 l0_5.length l0_5) (hc0_5 : l0_5.length ≤ c0_5) (hr1_2 : Kd.C Kd.bool w A1_2 l1_2.length l1_2) (hc1_2 : l1_2.length ≤ c1_2) (hr1_3 : Kd.C (Kd.slice 92 k92) w A1_3 l1_3.length l1_3) (hc1_3 : l1_3.length ≤ c1_3) (hr1_4 : Kd.C (Kd.slice 60 (Kd.slice 2 (Kd.int .i64))) w A1_4 l1_4.length l1_4) (hc1_4 : l1_4.length ≤ c1_4) (hr1_5 : Kd.C (Kd.slice 2 (Kd.int .i64)) w A1_5 l1_5.length l1_5) (hc1_5 : l1_5.length ≤ c1_5) (h : laws_eqChecker.f k a0_0 a0_1 l0_2 l0_3 l0_4 l0_5 a1_0 a1_1 l1_2 l1_3 l1_4 l1_5 = some r) :
  Calls Try.prog 11 #[.agg #[.int .i64 a0_0, .int .i64 a0_1, .slice A0_2 l0_2.length c0_2, .slice A0_3 l0_3.length c0_3, .slice A0_4 l0_4.length c0_4, .slice A0_5 l0_5.length c0_5], .agg #[.int .i64 a1_0, .int .i64 a1_1, .slice A1_2 l1_2.length c1_2, .slice A1_3 l1_3.length c1_3, .slice A1_4 l1_4.length c1_4, .slice A1_5 l1_5.length c1_5]] w fun e w' => e = .returned (.bool r) ∧ Below w.heap.size w w' := by
 have hu36 := Try.underlying36
 have HR0_2 := AZ.mk hr0_2
 have HC0_2 := AZ.mk hc0_2
 clear hr0_2 hc0_2
 have HR0_3 := AZ.mk hr0_3
 have HC0_3 := AZ.mk hc0_3
 clear hr0_3 hc0_3
 have HR0_4 := AZ.mk hr0_4
 have HC0_4 := AZ.mk hc0_4
 clear hr0_4 hc0_4
 have HR0_5 := AZ.mk hr0_5
 have HC0_5 := AZ.mk hc0_5
 clear hr0_5 hc0_5
 have HR1_2 := AZ.mk hr1_2
 have HC1_2 := AZ.mk hc1_2
 clear hr1_2 hc1_2
 have HR1_3 := AZ.mk hr1_3
 have HC1_3 := AZ.mk hc1_3
 clear hr1_3 hc1_3
 have HR1_4 := AZ.mk hr1_4
 have HC1_4 := AZ.mk hc1_4
 clear hr1_4 hc1_4
 have HR1_5 := AZ.mk hr1_5
 have HC1_5 := AZ.mk hc1_5
 clear hr1_5 hc1_5
 have HB := AZ.mk (Below.refl w.heap.size w)
 have H : (if a0_0 = a1_0 then (if a0_1 = a1_1 then ((laws_eqBoolS.f k l0_2 l1_2).bind fun t314 => (if t314 = true then ((laws_eqPushSS.f k l0_3 l1_3).bind fun t315 => (if t315 = true then ((laws_eqInt64SSS.f k l0_4 l1_4).bind fun t316 => (if t316 = true then ((laws_eqInt64SS.f k l0_5 l1_5).bind fun t317 => (if t317 = true then (some true) else (some false))) else (some false))) else (some false))) else (some false))) else (some false)) else (some false)) = some r := h
 clear h
 by_cases c3 : a0_0 = a1_0
 rotate_left
 ·rw [if_neg c3] at H
  have c3b0 : (a0_0 == a1_0) = false := beq_eq_false_iff_ne.mpr c3
  have c3b1 : (a0_0 != a1_0) = true := bne_iff_ne.mpr c3
  obtain rfl := Option.some.inj H
  go_enter Try.func11, Try.ntmps11
  go_wp2_with (first | ((with_reducible refine gate_dst (N := 2) rfl ?_); refine box_event ?hg (N := 2) ?hd (cs := #[.int .i64 a0_0, .int .i64 a0_1, .slice A0_2 l0_2.length c0_2, .slice A0_3 l0_3.length c0_3, .slice A0_4 l0_4.length c0_4, .slice A0_5 l0_5.length c0_5]) (t := 36) ?hr ?_; (case hd => rfl); (case hg => rfl); (case hr => first | (go_simp; done) | (go_simp; rfl)); intro gb312 hg w53 hbox hb; have n0_ := AZ.mk (pT (by repeat (first | (with_reducible first | exact HB.out | apply pA | apply pN | apply pD) | exact HB.out)) hb); have n1_ := AZ.mk (hbox); have n2_ := AZ.mk ((by rw [hg]; exact (pZ (by repeat (first | (with_reducible first | exact HB.out | apply pA | apply pN | apply pD) | exact HB.out))) : w.heap.size ≤ gb312)); have n3_ := AZ.mk ((by rw [hg]; exact (pZ (by repeat (first | (with_reducible first | exact HB.out | apply pA | apply pN | apply pD) | exact HB.out))) : w.heap.size ≤ gb312)); clear HB; have HB := n0_; have BK312 := n1_; have GW312 := n2_; have GE312 := n3_; clear n0_ n1_ n2_ n3_; clear hb hbox hg) | ((with_reducible refine gate_dst (N := 3) rfl ?_); refine box_event ?hg (N := 3) ?hd (cs := #[.int .i64 a1_0, .int .i64 a1_1, .slice A1_2 l1_2.length c1_2, .slice A1_3 l1_3.length c1_3, .slice A1_4 l1_4.length c1_4, .slice A1_5 l1_5.length c1_5]) (t := 36) ?hr ?_; (case hd => rfl); (case hg => rfl); (case hr => first | (go_simp; done) | (go_simp; rfl)); intro gb313 hg w54 hbox hb; have n0_ := AZ.mk (bb_ (g := gb312) (o := .cells #[.int .i64 a0_0, .int .i64 a0_1, .slice A0_2 l0_2.length c0_2, .slice A0_3 l0_3.length c0_3, .slice A0_4 l0_4.length c0_4, .slice A0_5 l0_5.length c0_5] 36 (0, 0)) (by (with_reducible repeat (first | refine bn_ ?_ _ | refine bd_ ?_ | refine ba_ ?_ _)); exact BK312.out) hb); have n1_ := AZ.mk (pT (by repeat (first | (with_reducible first | exact HB.out | apply pA | apply pN | apply pD | refine pS ?_ GE312.out) | exact HB.out)) hb); have n2_ := AZ.mk (hbox); have n3_ := AZ.mk ((by rw [hg]; exact (pZ (by repeat (first | (with_reducible first | exact HB.out | apply pA | apply pN | apply pD | refine pS ?_ GE312.out) | exact HB.out))) : w.heap.size ≤ gb313)); have n4_ := AZ.mk ((by rw [hg]; exact (pZ (by repeat (first | (with_reducible first | exact HB.out | apply pA | apply pN | apply pD | refine pS ?_ GE312.out) | exact HB.out))) : w.heap.size ≤ gb313)); have n5_ := AZ.mk ((by rw [hg]; exact Nat.ne_of_lt (blk_lt (g := gb312) (o := .cells #[.int .i64 a0_0, .int .i64 a0_1, .slice A0_2 l0_2.length c0_2, .slice A0_3 l0_3.length c0_3, .slice A0_4 l0_4.length c0_4, .slice A0_5 l0_5.length c0_5] 36 (0, 0)) (by (with_reducible repeat (first | refine bn_ ?_ _ | refine bd_ ?_ | refine ba_ ?_ _)); exact BK312.out)) : gb312 ≠ gb313)); have n6_ := AZ.mk ((by rw [hg]; exact Nat.ne_of_gt (blk_lt (g := gb312) (o := .cells #[.int .i64 a0_0, .int .i64 a0_1, .slice A0_2 l0_2.length c0_2, .slice A0_3 l0_3.length c0_3, .slice A0_4 l0_4.length c0_4, .slice A0_5 l0_5.length c0_5] 36 (0, 0)) (by (with_reducible repeat (first | refine bn_ ?_ _ | refine bd_ ?_ | refine ba_ ?_ _)); exact BK312.out)) : gb313 ≠ gb312)); clear BK312; clear HB; have BK312 := n0_; have HB := n1_; have BK313 := n2_; have GW313 := n3_; have GE313 := n4_; have NB312_313 := n5_; have NB313_312 := n6_; clear n0_ n1_ n2_ n3_ n4_ n5_ n6_; clear hb hbox hg; have hnb55 := NB312_313.out; have hnc55 := NB313_312.out; obtain ⟨hcz56_0, hcz56_1, hcz56_2, hcz56_3, hcz56_4, hcz56_5⟩ := c6 BK312.out; obtain ⟨hfz56_0, hfz56_1, hfz56_2, hfz56_3, hfz56_4, hfz56_5⟩ := f6 BK312.out; obtain ⟨hcz57_0, hcz57_1, hcz57_2, hcz57_3, hcz57_4, hcz57_5⟩ := c6 BK313.out; obtain ⟨hfz57_0, hfz57_1, hfz57_2, hfz57_3, hfz57_4, hfz57_5⟩ := f6 BK313.out))
  go_ret
  exact ⟨by first | rfl | (simp [errW_none, errW_some] <;> rfl) | (simp [*, errW_none, errW_some] <;> rfl), by repeat (first | (with_reducible first | exact HB.out | apply pA | apply pN | apply pD | refine pS ?_ GE312.out | refine pS ?_ GE313.out) | exact HB.out)⟩
 rw [if_pos c3] at H
 have c3b0 : (a0_0 == a1_0) = true := beq_iff_eq.mpr c3
 have c3b1 : (a0_0 != a1_0) = false := bne_eq_false_iff_eq.mpr c3
 clear c3
 by_cases c4 : a0_1 = a1_1
 rotate_left
 ·rw [if_neg c4] at H
  have c4b0 : (a0_1 == a1_1) = false := beq_eq_false_iff_ne.mpr c4
  have c4b1 : (a0_1 != a1_1) = true := bne_iff_ne.mpr c4
  obtain rfl := Option.some.inj H
  go_enter Try.func11, Try.ntmps11
  go_wp2_with (first | ((with_reducible refine gate_dst (N := 2) rfl ?_); refine box_event ?hg (N := 2) ?hd (cs := #[.int .i64 a0_0, .int .i64 a0_1, .slice A0_2 l0_2.length c0_2, .slice A0_3 l0_3.length c0_3, .slice A0_4 l0_4.length c0_4, .slice A0_5 l0_5.length c0_5]) (t := 36) ?hr ?_; (case hd => rfl); (case hg => rfl); (case hr => first | (go_simp; done) | (go_simp; rfl)); intro gb312 hg w48 hbox hb; have n0_ := AZ.mk (pT (by repeat (first | (with_reducible first | exact HB.out | apply pA | apply pN | apply pD) | exact HB.out)) hb); have n1_ := AZ.mk (hbox); have n2_ := AZ.mk ((by rw [hg]; exact (pZ (by repeat (first | (with_reducible first | exact HB.out | apply pA | apply pN | apply pD) | exact HB.out))) : w.heap.size ≤ gb312)); have n3_ := AZ.mk ((by rw [hg]; exact (pZ (by repeat (first | (with_reducible first | exact HB.out | apply pA | apply pN | apply pD) | exact HB.out))) : w.heap.size ≤ gb312)); clear HB; have HB := n0_; have BK312 := n1_; have GW312 := n2_; have GE312 := n3_; clear n0_ n1_ n2_ n3_; clear hb hbox hg) | ((with_reducible refine gate_dst (N := 3) rfl ?_); refine box_event ?hg (N := 3) ?hd (cs := #[.int .i64 a1_0, .int .i64 a1_1, .slice A1_2 l1_2.length c1_2, .slice A1_3 l1_3.length c1_3, .slice A1_4 l1_4.length c1_4, .slice A1_5 l1_5.length c1_5]) (t := 36) ?hr ?_; (case hd => rfl); (case hg => rfl); (case hr => first | (go_simp; done) | (go_simp; rfl)); intro gb313 hg w49 hbox hb; have n0_ := AZ.mk (bb_ (g := gb312) (o := .cells #[.int .i64 a0_0, .int .i64 a0_1, .slice A0_2 l0_2.length c0_2, .slice A0_3 l0_3.length c0_3, .slice A0_4 l0_4.length c0_4, .slice A0_5 l0_5.length c0_5] 36 (0, 0)) (by (with_reducible repeat (first | refine bn_ ?_ _ | refine bd_ ?_ | refine ba_ ?_ _)); exact BK312.out) hb); have n1_ := AZ.mk (pT (by repeat (first | (with_reducible first | exact HB.out | apply pA | apply pN | apply pD | refine pS ?_ GE312.out) | exact HB.out)) hb); have n2_ := AZ.mk (hbox); have n3_ := AZ.mk ((by rw [hg]; exact (pZ (by repeat (first | (with_reducible first | exact HB.out | apply pA | apply pN | apply pD | refine pS ?_ GE312.out) | exact HB.out))) : w.heap.size ≤ gb313)); have n4_ := AZ.mk ((by rw [hg]; exact (pZ (by repeat (first | (with_reducible first | exact HB.out | apply pA | apply pN | apply pD | refine pS ?_ GE312.out) | exact HB.out))) : w.heap.size ≤ gb313)); have n5_ := AZ.mk ((by rw [hg]; exact Nat.ne_of_lt (blk_lt (g := gb312) (o := .cells #[.int .i64 a0_0, .int .i64 a0_1, .slice A0_2 l0_2.length c0_2, .slice A0_3 l0_3.length c0_3, .slice A0_4 l0_4.length c0_4, .slice A0_5 l0_5.length c0_5] 36 (0, 0)) (by (with_reducible repeat (first | refine bn_ ?_ _ | refine bd_ ?_ | refine ba_ ?_ _)); exact BK312.out)) : gb312 ≠ gb313)); have n6_ := AZ.mk ((by rw [hg]; exact Nat.ne_of_gt (blk_lt (g := gb312) (o := .cells #[.int .i64 a0_0, .int .i64 a0_1, .slice A0_2 l0_2.length c0_2, .slice A0_3 l0_3.length c0_3, .slice A0_4 l0_4.length c0_4, .slice A0_5 l0_5.length c0_5] 36 (0, 0)) (by (with_reducible repeat (first | refine bn_ ?_ _ | refine bd_ ?_ | refine ba_ ?_ _)); exact BK312.out)) : gb313 ≠ gb312)); clear BK312; clear HB; have BK312 := n0_; have HB := n1_; have BK313 := n2_; have GW313 := n3_; have GE313 := n4_; have NB312_313 := n5_; have NB313_312 := n6_; clear n0_ n1_ n2_ n3_ n4_ n5_ n6_; clear hb hbox hg; have hnb50 := NB312_313.out; have hnc50 := NB313_312.out; obtain ⟨hcz51_0, hcz51_1, hcz51_2, hcz51_3, hcz51_4, hcz51_5⟩ := c6 BK312.out; obtain ⟨hfz51_0, hfz51_1, hfz51_2, hfz51_3, hfz51_4, hfz51_5⟩ := f6 BK312.out; obtain ⟨hcz52_0, hcz52_1, hcz52_2, hcz52_3, hcz52_4, hcz52_5⟩ := c6 BK313.out; obtain ⟨hfz52_0, hfz52_1, hfz52_2, hfz52_3, hfz52_4, hfz52_5⟩ := f6 BK313.out))
  go_ret
  exact ⟨by first | rfl | (simp [errW_none, errW_some] <;> rfl) | (simp [*, errW_none, errW_some] <;> rfl), by repeat (first | (with_reducible first | exact HB.out | apply pA | apply pN | apply pD | refine pS ?_ GE312.out | refine pS ?_ GE313.out) | exact HB.out)⟩
 rw [if_pos c4] at H
 have c4b0 : (a0_1 == a1_1) = true := beq_iff_eq.mpr c4
 have c4b1 : (a0_1 != a1_1) = false := bne_eq_false_iff_eq.mpr c4
 clear c4
 replace H := Option.bind_eq_some_iff.mp H
 obtain ⟨t314, A50, H⟩ := H
 replace H : (if t314 = true then ((laws_eqPushSS.f k l0_3 l1_3).bind fun t315 => (if t315 = true then ((laws_eqInt64SSS.f k l0_4 l1_4).bind fun t316 => (if t316 = true then ((laws_eqInt64SS.f k l0_5 l1_5).bind fun t317 => (if t317 = true then (some true) else (some false))) else (some false))) else (some false))) else (some false)) = some r := H
 have A5 := AZ.mk A50
 clear A50
 by_cases c6 : t314 = true
 rotate_left
 ·replace c6 := Bool.eq_false_iff.mpr c6
  subst c6
  have H1 : (some false) = some r := by rw [if_neg (show ¬ (false = true) by decide)] at H; exact H
  clear H
  have H := H1
  clear H1
  obtain rfl := Option.some.inj H
  go_enter Try.func11, Try.ntmps11
  go_wp2_with (first | ((with_reducible refine gate_dst (N := 2) rfl ?_); refine box_event ?hg (N := 2) ?hd (cs := #[.int .i64 a0_0, .int .i64 a0_1, .slice A0_2 l0_2.length c0_2, .slice A0_3 l0_3.length c0_3, .slice A0_4 l0_4.length c0_4, .slice A0_5 l0_5.length c0_5]) (t := 36) ?hr ?_; (case hd => rfl); (case hg => rfl); (case hr => first | (go_simp; done) | (go_simp; rfl)); intro gb312 hg w43 hbox hb; have n0_ := AZ.mk (pT (by repeat (first | (with_reducible first | exact HB.out | apply pA | apply pN | apply pD) | exact HB.out)) hb); have n1_ := AZ.mk (hbox); have n2_ := AZ.mk ((by rw [hg]; exact (pZ (by repeat (first | (with_reducible first | exact HB.out | apply pA | apply pN | apply pD) | exact HB.out))) : w.heap.size ≤ gb312)); have n3_ := AZ.mk ((by rw [hg]; exact (pZ (by repeat (first | (with_reducible first | exact HB.out | apply pA | apply pN | apply pD) | exact HB.out))) : w.heap.size ≤ gb312)); clear HB; have HB := n0_; have BK312 := n1_; have GW312 := n2_; have GE312 := n3_; clear n0_ n1_ n2_ n3_; clear hb hbox hg) | ((with_reducible refine gate_dst (N := 3) rfl ?_); refine box_event ?hg (N := 3) ?hd (cs := #[.int .i64 a1_0, .int .i64 a1_1, .slice A1_2 l1_2.length c1_2, .slice A1_3 l1_3.length c1_3, .slice A1_4 l1_4.length c1_4, .slice A1_5 l1_5.length c1_5]) (t := 36) ?hr ?_; (case hd => rfl); (case hg => rfl); (case hr => first | (go_simp; done) | (go_simp; rfl)); intro gb313 hg w44 hbox hb; have n0_ := AZ.mk (bb_ (g := gb312) (o := .cells #[.int .i64 a0_0, .int .i64 a0_1, .slice A0_2 l0_2.length c0_2, .slice A0_3 l0_3.length c0_3, .slice A0_4 l0_4.length c0_4, .slice A0_5 l0_5.length c0_5] 36 (0, 0)) (by (with_reducible repeat (first | refine bn_ ?_ _ | refine bd_ ?_ | refine ba_ ?_ _)); exact BK312.out) hb); have n1_ := AZ.mk (pT (by repeat (first | (with_reducible first | exact HB.out | apply pA | apply pN | apply pD | refine pS ?_ GE312.out) | exact HB.out)) hb); have n2_ := AZ.mk (hbox); have n3_ := AZ.mk ((by rw [hg]; exact (pZ (by repeat (first | (with_reducible first | exact HB.out | apply pA | apply pN | apply pD | refine pS ?_ GE312.out) | exact HB.out))) : w.heap.size ≤ gb313)); have n4_ := AZ.mk ((by rw [hg]; exact (pZ (by repeat (first | (with_reducible first | exact HB.out | apply pA | apply pN | apply pD | refine pS ?_ GE312.out) | exact HB.out))) : w.heap.size ≤ gb313)); have n5_ := AZ.mk ((by rw [hg]; exact Nat.ne_of_lt (blk_lt (g := gb312) (o := .cells #[.int .i64 a0_0, .int .i64 a0_1, .slice A0_2 l0_2.length c0_2, .slice A0_3 l0_3.length c0_3, .slice A0_4 l0_4.length c0_4, .slice A0_5 l0_5.length c0_5] 36 (0, 0)) (by (with_reducible repeat (first | refine bn_ ?_ _ | refine bd_ ?_ | refine ba_ ?_ _)); exact BK312.out)) : gb312 ≠ gb313)); have n6_ := AZ.mk ((by rw [hg]; exact Nat.ne_of_gt (blk_lt (g := gb312) (o := .cells #[.int .i64 a0_0, .int .i64 a0_1, .slice A0_2 l0_2.length c0_2, .slice A0_3 l0_3.length c0_3, .slice A0_4 l0_4.length c0_4, .slice A0_5 l0_5.length c0_5] 36 (0, 0)) (by (with_reducible repeat (first | refine bn_ ?_ _ | refine bd_ ?_ | refine ba_ ?_ _)); exact BK312.out)) : gb313 ≠ gb312)); clear BK312; clear HB; have BK312 := n0_; have HB := n1_; have BK313 := n2_; have GW313 := n3_; have GE313 := n4_; have NB312_313 := n5_; have NB313_312 := n6_; clear n0_ n1_ n2_ n3_ n4_ n5_ n6_; clear hb hbox hg; have hnb45 := NB312_313.out; have hnc45 := NB313_312.out; obtain ⟨hcz46_0, hcz46_1, hcz46_2, hcz46_3, hcz46_4, hcz46_5⟩ := c6 BK312.out; obtain ⟨hfz46_0, hfz46_1, hfz46_2, hfz46_3, hfz46_4, hfz46_5⟩ := f6 BK312.out; obtain ⟨hcz47_0, hcz47_1, hcz47_2, hcz47_3, hcz47_4, hcz47_5⟩ := c6 BK313.out; obtain ⟨hfz47_0, hfz47_1, hfz47_2, hfz47_3, hfz47_4, hfz47_5⟩ := f6 BK313.out) | ((with_reducible refine gate_callee (f := 34) rfl ?_); refine goesL_ (some 19) rfl rfl Try.func34 (by kernel_rfl) rfl #[.slice A0_2 l0_2.length c0_2, .slice A1_2 l1_2.length c1_2] rfl (by (try simp only [List.map_toArray, List.map_cons, List.map_nil]); first | done | rfl | (simp only [List.length_drop, List.length_take]; rfl)) ?_; (with_reducible refine (laws_eqBoolS.calls k _ _ l0_2 _ _ l1_2 false _ ?side1 ?side2 ?side3 ?side4 A5.out).mono ?_); (case side1 => repeat (first | exact (Kd.C_below HR0_2.out HB.out) | (with_reducible refine Kd.C_alloc ?_ _) | (with_reducible refine Kd.C_drewN ?_ _) | (with_reducible refine Kd.C_drew ?_))); (case side2 => exact HC0_2.out); (case side3 => repeat (first | exact (Kd.C_below HR1_2.out HB.out) | (with_reducible refine Kd.C_alloc ?_ _) | (with_reducible refine Kd.C_drewN ?_ _) | (with_reducible refine Kd.C_drew ?_))); (case side4 => exact HC1_2.out); rintro e w' ⟨rfl, ⟨nd, rfl⟩⟩; refine ⟨_, rfl, ?_⟩))
  go_ret
  exact ⟨by first | rfl | (simp [errW_none, errW_some] <;> rfl) | (simp [*, errW_none, errW_some] <;> rfl), by repeat (first | (with_reducible first | exact HB.out | apply pA | apply pN | apply pD | refine pS ?_ GE312.out | refine pS ?_ GE313.out) | exact HB.out)⟩
 subst c6
 have H1 : ((laws_eqPushSS.f k l0_3 l1_3).bind fun t315 => (if t315 = true then ((laws_eqInt64SSS.f k l0_4 l1_4).bind fun t316 => (if t316 = true then ((laws_eqInt64SS.f k l0_5 l1_5).bind fun t317 => (if t317 = true then (some true) else (some false))) else (some false))) else (some false))) = some r := by rw [if_pos rfl] at H; exact H
 clear H
 have H := H1
 clear H1
 replace H := Option.bind_eq_some_iff.mp H
 obtain ⟨t315, A70, H⟩ := H
 replace H : (if t315 = true then ((laws_eqInt64SSS.f k l0_4 l1_4).bind fun t316 => (if t316 = true then ((laws_eqInt64SS.f k l0_5 l1_5).bind fun t317 => (if t317 = true then (some true) else (some false))) else (some false))) else (some false)) = some r := H
 have A7 := AZ.mk A70
 clear A70
 by_cases c8 : t315 = true
 rotate_left
 ·replace c8 := Bool.eq_false_iff.mpr c8
  subst c8
  have H1 : (some false) = some r := by rw [if_neg (show ¬ (false = true) by decide)] at H; exact H
  clear H
  have H := H1
  clear H1
  obtain rfl := Option.some.inj H
  go_enter Try.func11, Try.ntmps11
  go_wp2_with (first | ((with_reducible refine gate_dst (N := 2) rfl ?_); refine box_event ?hg (N := 2) ?hd (cs := #[.int .i64 a0_0, .int .i64 a0_1, .slice A0_2 l0_2.length c0_2, .slice A0_3 l0_3.length c0_3, .slice A0_4 l0_4.length c0_4, .slice A0_5 l0_5.length c0_5]) (t := 36) ?hr ?_; (case hd => rfl); (case hg => rfl); (case hr => first | (go_simp; done) | (go_simp; rfl)); intro gb312 hg w37 hbox hb; have n0_ := AZ.mk (pT (by repeat (first | (with_reducible first | exact HB.out | apply pA | apply pN | apply pD) | exact HB.out)) hb); have n1_ := AZ.mk (hbox); have n2_ := AZ.mk ((by rw [hg]; exact (pZ (by repeat (first | (with_reducible first | exact HB.out | apply pA | apply pN | apply pD) | exact HB.out))) : w.heap.size ≤ gb312)); have n3_ := AZ.mk ((by rw [hg]; exact (pZ (by repeat (first | (with_reducible first | exact HB.out | apply pA | apply pN | apply pD) | exact HB.out))) : w.heap.size ≤ gb312)); clear HB; have HB := n0_; have BK312 := n1_; have GW312 := n2_; have GE312 := n3_; clear n0_ n1_ n2_ n3_; clear hb hbox hg) | ((with_reducible refine gate_dst (N := 3) rfl ?_); refine box_event ?hg (N := 3) ?hd (cs := #[.int .i64 a1_0, .int .i64 a1_1, .slice A1_2 l1_2.length c1_2, .slice A1_3 l1_3.length c1_3, .slice A1_4 l1_4.length c1_4, .slice A1_5 l1_5.length c1_5]) (t := 36) ?hr ?_; (case hd => rfl); (case hg => rfl); (case hr => first | (go_simp; done) | (go_simp; rfl)); intro gb313 hg w38 hbox hb; have n0_ := AZ.mk (bb_ (g := gb312) (o := .cells #[.int .i64 a0_0, .int .i64 a0_1, .slice A0_2 l0_2.length c0_2, .slice A0_3 l0_3.length c0_3, .slice A0_4 l0_4.length c0_4, .slice A0_5 l0_5.length c0_5] 36 (0, 0)) (by (with_reducible repeat (first | refine bn_ ?_ _ | refine bd_ ?_ | refine ba_ ?_ _)); exact BK312.out) hb); have n1_ := AZ.mk (pT (by repeat (first | (with_reducible first | exact HB.out | apply pA | apply pN | apply pD | refine pS ?_ GE312.out) | exact HB.out)) hb); have n2_ := AZ.mk (hbox); have n3_ := AZ.mk ((by rw [hg]; exact (pZ (by repeat (first | (with_reducible first | exact HB.out | apply pA | apply pN | apply pD | refine pS ?_ GE312.out) | exact HB.out))) : w.heap.size ≤ gb313)); have n4_ := AZ.mk ((by rw [hg]; exact (pZ (by repeat (first | (with_reducible first | exact HB.out | apply pA | apply pN | apply pD | refine pS ?_ GE312.out) | exact HB.out))) : w.heap.size ≤ gb313)); have n5_ := AZ.mk ((by rw [hg]; exact Nat.ne_of_lt (blk_lt (g := gb312) (o := .cells #[.int .i64 a0_0, .int .i64 a0_1, .slice A0_2 l0_2.length c0_2, .slice A0_3 l0_3.length c0_3, .slice A0_4 l0_4.length c0_4, .slice A0_5 l0_5.length c0_5] 36 (0, 0)) (by (with_reducible repeat (first | refine bn_ ?_ _ | refine bd_ ?_ | refine ba_ ?_ _)); exact BK312.out)) : gb312 ≠ gb313)); have n6_ := AZ.mk ((by rw [hg]; exact Nat.ne_of_gt (blk_lt (g := gb312) (o := .cells #[.int .i64 a0_0, .int .i64 a0_1, .slice A0_2 l0_2.length c0_2, .slice A0_3 l0_3.length c0_3, .slice A0_4 l0_4.length c0_4, .slice A0_5 l0_5.length c0_5] 36 (0, 0)) (by (with_reducible repeat (first | refine bn_ ?_ _ | refine bd_ ?_ | refine ba_ ?_ _)); exact BK312.out)) : gb313 ≠ gb312)); clear BK312; clear HB; have BK312 := n0_; have HB := n1_; have BK313 := n2_; have GW313 := n3_; have GE313 := n4_; have NB312_313 := n5_; have NB313_312 := n6_; clear n0_ n1_ n2_ n3_ n4_ n5_ n6_; clear hb hbox hg; have hnb39 := NB312_313.out; have hnc39 := NB313_312.out; obtain ⟨hcz40_0, hcz40_1, hcz40_2, hcz40_3, hcz40_4, hcz40_5⟩ := c6 BK312.out; obtain ⟨hfz40_0, hfz40_1, hfz40_2, hfz40_3, hfz40_4, hfz40_5⟩ := f6 BK312.out; obtain ⟨hcz41_0, hcz41_1, hcz41_2, hcz41_3, hcz41_4, hcz41_5⟩ := c6 BK313.out; obtain ⟨hfz41_0, hfz41_1, hfz41_2, hfz41_3, hfz41_4, hfz41_5⟩ := f6 BK313.out) | ((with_reducible refine gate_callee (f := 34) rfl ?_); refine goesL_ (some 19) rfl rfl Try.func34 (by kernel_rfl) rfl #[.slice A0_2 l0_2.length c0_2, .slice A1_2 l1_2.length c1_2] rfl (by (try simp only [List.map_toArray, List.map_cons, List.map_nil]); first | done | rfl | (simp only [List.length_drop, List.length_take]; rfl)) ?_; (with_reducible refine (laws_eqBoolS.calls k _ _ l0_2 _ _ l1_2 true _ ?side1 ?side2 ?side3 ?side4 A5.out).mono ?_); (case side1 => repeat (first | exact (Kd.C_below HR0_2.out HB.out) | (with_reducible refine Kd.C_alloc ?_ _) | (with_reducible refine Kd.C_drewN ?_ _) | (with_reducible refine Kd.C_drew ?_))); (case side2 => exact HC0_2.out); (case side3 => repeat (first | exact (Kd.C_below HR1_2.out HB.out) | (with_reducible refine Kd.C_alloc ?_ _) | (with_reducible refine Kd.C_drewN ?_ _) | (with_reducible refine Kd.C_drew ?_))); (case side4 => exact HC1_2.out); rintro e w' ⟨rfl, ⟨nd, rfl⟩⟩; refine ⟨_, rfl, ?_⟩) | ((with_reducible refine gate_callee (f := 35) rfl ?_); refine goesL_ (some 25) rfl rfl Try.func35 (by kernel_rfl) rfl #[.slice A0_3 l0_3.length c0_3, .slice A1_3 l1_3.length c1_3] rfl (by (try simp only [List.map_toArray, List.map_cons, List.map_nil]); first | done | rfl | (simp only [List.length_drop, List.length_take]; rfl)) ?_; (with_reducible refine (laws_eqPushSS.calls k _ _ l0_3 _ _ l1_3 false _ ?side1 ?side2 ?side3 ?side4 A7.out).mono ?_); (case side1 => repeat (first | exact (Kd.C_below HR0_3.out (by repeat (first | (with_reducible first | exact HB.out | apply pA | apply pN | apply pD | refine pS ?_ GE312.out | refine pS ?_ GE313.out) | exact HB.out))) | (with_reducible refine Kd.C_alloc ?_ _) | (with_reducible refine Kd.C_drewN ?_ _) | (with_reducible refine Kd.C_drew ?_))); (case side2 => exact HC0_3.out); (case side3 => repeat (first | exact (Kd.C_below HR1_3.out (by repeat (first | (with_reducible first | exact HB.out | apply pA | apply pN | apply pD | refine pS ?_ GE312.out | refine pS ?_ GE313.out) | exact HB.out))) | (with_reducible refine Kd.C_alloc ?_ _) | (with_reducible refine Kd.C_drewN ?_ _) | (with_reducible refine Kd.C_drew ?_))); (case side4 => exact HC1_3.out); rintro e w42 ⟨rfl, hb⟩; refine ⟨_, rfl, ?_⟩; have n0_ := AZ.mk (bb_ (g := gb312) (o := .cells #[.int .i64 a0_0, .int .i64 a0_1, .slice A0_2 l0_2.length c0_2, .slice A0_3 l0_3.length c0_3, .slice A0_4 l0_4.length c0_4, .slice A0_5 l0_5.length c0_5] 36 (0, 0)) (by (with_reducible repeat (first | refine bn_ ?_ _ | refine bd_ ?_ | refine ba_ ?_ _)); exact BK312.out) hb); have n1_ := AZ.mk (bb_ (g := gb313) (o := .cells #[.int .i64 a1_0, .int .i64 a1_1, .slice A1_2 l1_2.length c1_2, .slice A1_3 l1_3.length c1_3, .slice A1_4 l1_4.length c1_4, .slice A1_5 l1_5.length c1_5] 36 (0, 0)) (by (with_reducible repeat (first | refine bn_ ?_ _ | refine bd_ ?_ | refine ba_ ?_ _)); exact BK313.out) hb); have n2_ := AZ.mk (pT (by repeat (first | (with_reducible first | exact HB.out | apply pA | apply pN | apply pD | refine pS ?_ GE312.out | refine pS ?_ GE313.out) | exact HB.out)) hb); clear BK312; clear BK313; clear HB; have BK312 := n0_; have BK313 := n1_; have HB := n2_; clear n0_ n1_ n2_; (try clear hb); (try clear hb2); (try clear hk); (try clear hi)))
  go_ret
  exact ⟨by first | rfl | (simp [errW_none, errW_some] <;> rfl) | (simp [*, errW_none, errW_some] <;> rfl), by repeat (first | (with_reducible first | exact HB.out | apply pA | apply pN | apply pD | refine pS ?_ GE312.out | refine pS ?_ GE313.out) | exact HB.out)⟩
 subst c8
 have H1 : ((laws_eqInt64SSS.f k l0_4 l1_4).bind fun t316 => (if t316 = true then ((laws_eqInt64SS.f k l0_5 l1_5).bind fun t317 => (if t317 = true then (some true) else (some false))) else (some false))) = some r := by rw [if_pos rfl] at H; exact H
 clear H
 have H := H1
 clear H1
 replace H := Option.bind_eq_some_iff.mp H
 obtain ⟨t316, A90, H⟩ := H
 replace H : (if t316 = true then ((laws_eqInt64SS.f k l0_5 l1_5).bind fun t317 => (if t317 = true then (some true) else (some false))) else (some false)) = some r := H
 have A9 := AZ.mk A90
 clear A90
 by_cases c10 : t316 = true
 rotate_left
 ·replace c10 := Bool.eq_false_iff.mpr c10
  subst c10
  have H1 : (some false) = some r := by rw [if_neg (show ¬ (false = true) by decide)] at H; exact H
  clear H
  have H := H1
  clear H1
  obtain rfl := Option.some.inj H
  go_enter Try.func11, Try.ntmps11
  go_wp2_with (first | ((with_reducible refine gate_dst (N := 2) rfl ?_); refine box_event ?hg (N := 2) ?hd (cs := #[.int .i64 a0_0, .int .i64 a0_1, .slice A0_2 l0_2.length c0_2, .slice A0_3 l0_3.length c0_3, .slice A0_4 l0_4.length c0_4, .slice A0_5 l0_5.length c0_5]) (t := 36) ?hr ?_; (case hd => rfl); (case hg => rfl); (case hr => first | (go_simp; done) | (go_simp; rfl)); intro gb312 hg w29 hbox hb; have n0_ := AZ.mk (pT (by repeat (first | (with_reducible first | exact HB.out | apply pA | apply pN | apply pD) | exact HB.out)) hb); have n1_ := AZ.mk (hbox); have n2_ := AZ.mk ((by rw [hg]; exact (pZ (by repeat (first | (with_reducible first | exact HB.out | apply pA | apply pN | apply pD) | exact HB.out))) : w.heap.size ≤ gb312)); have n3_ := AZ.mk ((by rw [hg]; exact (pZ (by repeat (first | (with_reducible first | exact HB.out | apply pA | apply pN | apply pD) | exact HB.out))) : w.heap.size ≤ gb312)); clear HB; have HB := n0_; have BK312 := n1_; have GW312 := n2_; have GE312 := n3_; clear n0_ n1_ n2_ n3_; clear hb hbox hg) | ((with_reducible refine gate_dst (N := 3) rfl ?_); refine box_event ?hg (N := 3) ?hd (cs := #[.int .i64 a1_0, .int .i64 a1_1, .slice A1_2 l1_2.length c1_2, .slice A1_3 l1_3.length c1_3, .slice A1_4 l1_4.length c1_4, .slice A1_5 l1_5.length c1_5]) (t := 36) ?hr ?_; (case hd => rfl); (case hg => rfl); (case hr => first | (go_simp; done) | (go_simp; rfl)); intro gb313 hg w30 hbox hb; have n0_ := AZ.mk (bb_ (g := gb312) (o := .cells #[.int .i64 a0_0, .int .i64 a0_1, .slice A0_2 l0_2.length c0_2, .slice A0_3 l0_3.length c0_3, .slice A0_4 l0_4.length c0_4, .slice A0_5 l0_5.length c0_5] 36 (0, 0)) (by (with_reducible repeat (first | refine bn_ ?_ _ | refine bd_ ?_ | refine ba_ ?_ _)); exact BK312.out) hb); have n1_ := AZ.mk (pT (by repeat (first | (with_reducible first | exact HB.out | apply pA | apply pN | apply pD | refine pS ?_ GE312.out) | exact HB.out)) hb); have n2_ := AZ.mk (hbox); have n3_ := AZ.mk ((by rw [hg]; exact (pZ (by repeat (first | (with_reducible first | exact HB.out | apply pA | apply pN | apply pD | refine pS ?_ GE312.out) | exact HB.out))) : w.heap.size ≤ gb313)); have n4_ := AZ.mk ((by rw [hg]; exact (pZ (by repeat (first | (with_reducible first | exact HB.out | apply pA | apply pN | apply pD | refine pS ?_ GE312.out) | exact HB.out))) : w.heap.size ≤ gb313)); have n5_ := AZ.mk ((by rw [hg]; exact Nat.ne_of_lt (blk_lt (g := gb312) (o := .cells #[.int .i64 a0_0, .int .i64 a0_1, .slice A0_2 l0_2.length c0_2, .slice A0_3 l0_3.length c0_3, .slice A0_4 l0_4.length c0_4, .slice A0_5 l0_5.length c0_5] 36 (0, 0)) (by (with_reducible repeat (first | refine bn_ ?_ _ | refine bd_ ?_ | refine ba_ ?_ _)); exact BK312.out)) : gb312 ≠ gb313)); have n6_ := AZ.mk ((by rw [hg]; exact Nat.ne_of_gt (blk_lt (g := gb312) (o := .cells #[.int .i64 a0_0, .int .i64 a0_1, .slice A0_2 l0_2.length c0_2, .slice A0_3 l0_3.length c0_3, .slice A0_4 l0_4.length c0_4, .slice A0_5 l0_5.length c0_5] 36 (0, 0)) (by (with_reducible repeat (first | refine bn_ ?_ _ | refine bd_ ?_ | refine ba_ ?_ _)); exact BK312.out)) : gb313 ≠ gb312)); clear BK312; clear HB; have BK312 := n0_; have HB := n1_; have BK313 := n2_; have GW313 := n3_; have GE313 := n4_; have NB312_313 := n5_; have NB313_312 := n6_; clear n0_ n1_ n2_ n3_ n4_ n5_ n6_; clear hb hbox hg; have hnb31 := NB312_313.out; have hnc31 := NB313_312.out; obtain ⟨hcz32_0, hcz32_1, hcz32_2, hcz32_3, hcz32_4, hcz32_5⟩ := c6 BK312.out; obtain ⟨hfz32_0, hfz32_1, hfz32_2, hfz32_3, hfz32_4, hfz32_5⟩ := f6 BK312.out; obtain ⟨hcz33_0, hcz33_1, hcz33_2, hcz33_3, hcz33_4, hcz33_5⟩ := c6 BK313.out; obtain ⟨hfz33_0, hfz33_1, hfz33_2, hfz33_3, hfz33_4, hfz33_5⟩ := f6 BK313.out) | ((with_reducible refine gate_callee (f := 34) rfl ?_); refine goesL_ (some 19) rfl rfl Try.func34 (by kernel_rfl) rfl #[.slice A0_2 l0_2.length c0_2, .slice A1_2 l1_2.length c1_2] rfl (by (try simp only [List.map_toArray, List.map_cons, List.map_nil]); first | done | rfl | (simp only [List.length_drop, List.length_take]; rfl)) ?_; (with_reducible refine (laws_eqBoolS.calls k _ _ l0_2 _ _ l1_2 true _ ?side1 ?side2 ?side3 ?side4 A5.out).mono ?_); (case side1 => repeat (first | exact (Kd.C_below HR0_2.out HB.out) | (with_reducible refine Kd.C_alloc ?_ _) | (with_reducible refine Kd.C_drewN ?_ _) | (with_reducible refine Kd.C_drew ?_))); (case side2 => exact HC0_2.out); (case side3 => repeat (first | exact (Kd.C_below HR1_2.out HB.out) | (with_reducible refine Kd.C_alloc ?_ _) | (with_reducible refine Kd.C_drewN ?_ _) | (with_reducible refine Kd.C_drew ?_))); (case side4 => exact HC1_2.out); rintro e w' ⟨rfl, ⟨nd, rfl⟩⟩; refine ⟨_, rfl, ?_⟩) | ((with_reducible refine gate_callee (f := 35) rfl ?_); refine goesL_ (some 25) rfl rfl Try.func35 (by kernel_rfl) rfl #[.slice A0_3 l0_3.length c0_3, .slice A1_3 l1_3.length c1_3] rfl (by (try simp only [List.map_toArray, List.map_cons, List.map_nil]); first | done | rfl | (simp only [List.length_drop, List.length_take]; rfl)) ?_; (with_reducible refine (laws_eqPushSS.calls k _ _ l0_3 _ _ l1_3 true _ ?side1 ?side2 ?side3 ?side4 A7.out).mono ?_); (case side1 => repeat (first | exact (Kd.C_below HR0_3.out (by repeat (first | (with_reducible first | exact HB.out | apply pA | apply pN | apply pD | refine pS ?_ GE312.out | refine pS ?_ GE313.out) | exact HB.out))) | (with_reducible refine Kd.C_alloc ?_ _) | (with_reducible refine Kd.C_drewN ?_ _) | (with_reducible refine Kd.C_drew ?_))); (case side2 => exact HC0_3.out); (case side3 => repeat (first | exact (Kd.C_below HR1_3.out (by repeat (first | (with_reducible first | exact HB.out | apply pA | apply pN | apply pD | refine pS ?_ GE312.out | refine pS ?_ GE313.out) | exact HB.out))) | (with_reducible refine Kd.C_alloc ?_ _) | (with_reducible refine Kd.C_drewN ?_ _) | (with_reducible refine Kd.C_drew ?_))); (case side4 => exact HC1_3.out); rintro e w34 ⟨rfl, hb⟩; refine ⟨_, rfl, ?_⟩; have n0_ := AZ.mk (bb_ (g := gb312) (o := .cells #[.int .i64 a0_0, .int .i64 a0_1, .slice A0_2 l0_2.length c0_2, .slice A0_3 l0_3.length c0_3, .slice A0_4 l0_4.length c0_4, .slice A0_5 l0_5.length c0_5] 36 (0, 0)) (by (with_reducible repeat (first | refine bn_ ?_ _ | refine bd_ ?_ | refine ba_ ?_ _)); exact BK312.out) hb); have n1_ := AZ.mk (bb_ (g := gb313) (o := .cells #[.int .i64 a1_0, .int .i64 a1_1, .slice A1_2 l1_2.length c1_2, .slice A1_3 l1_3.length c1_3, .slice A1_4 l1_4.length c1_4, .slice A1_5 l1_5.length c1_5] 36 (0, 0)) (by (with_reducible repeat (first | refine bn_ ?_ _ | refine bd_ ?_ | refine ba_ ?_ _)); exact BK313.out) hb); have n2_ := AZ.mk (pT (by repeat (first | (with_reducible first | exact HB.out | apply pA | apply pN | apply pD | refine pS ?_ GE312.out | refine pS ?_ GE313.out) | exact HB.out)) hb); clear BK312; clear BK313; clear HB; have BK312 := n0_; have BK313 := n1_; have HB := n2_; clear n0_ n1_ n2_; (try clear hb); (try clear hb2); (try clear hk); (try clear hi); obtain ⟨hcz35_0, hcz35_1, hcz35_2, hcz35_3, hcz35_4, hcz35_5⟩ := c6 BK312.out; obtain ⟨hfz35_0, hfz35_1, hfz35_2, hfz35_3, hfz35_4, hfz35_5⟩ := f6 BK312.out; obtain ⟨hcz36_0, hcz36_1, hcz36_2, hcz36_3, hcz36_4, hcz36_5⟩ := c6 BK313.out; obtain ⟨hfz36_0, hfz36_1, hfz36_2, hfz36_3, hfz36_4, hfz36_5⟩ := f6 BK313.out) | ((with_reducible refine gate_callee (f := 36) rfl ?_); refine goesL_ (some 31) rfl rfl Try.func36 (by kernel_rfl) rfl #[.slice A0_4 l0_4.length c0_4, .slice A1_4 l1_4.length c1_4] rfl (by (try simp only [List.map_toArray, List.map_cons, List.map_nil]); first | done | rfl | (simp only [List.length_drop, List.length_take]; rfl)) ?_; (with_reducible refine (laws_eqInt64SSS.calls k _ _ l0_4 _ _ l1_4 false _ ?side1 ?side2 ?side3 ?side4 A9.out).mono ?_); (case side1 => repeat (first | exact (Kd.C_below HR0_4.out HB.out) | (with_reducible refine Kd.C_alloc ?_ _) | (with_reducible refine Kd.C_drewN ?_ _) | (with_reducible refine Kd.C_drew ?_))); (case side2 => exact HC0_4.out); (case side3 => repeat (first | exact (Kd.C_below HR1_4.out HB.out) | (with_reducible refine Kd.C_alloc ?_ _) | (with_reducible refine Kd.C_drewN ?_ _) | (with_reducible refine Kd.C_drew ?_))); (case side4 => exact HC1_4.out); rintro e w' ⟨rfl, ⟨nd, rfl⟩⟩; refine ⟨_, rfl, ?_⟩))
  go_ret
  exact ⟨by first | rfl | (simp [errW_none, errW_some] <;> rfl) | (simp [*, errW_none, errW_some] <;> rfl), by repeat (first | (with_reducible first | exact HB.out | apply pA | apply pN | apply pD | refine pS ?_ GE312.out | refine pS ?_ GE313.out) | exact HB.out)⟩
 subst c10
 have H1 : ((laws_eqInt64SS.f k l0_5 l1_5).bind fun t317 => (if t317 = true then (some true) else (some false))) = some r := by rw [if_pos rfl] at H; exact H
 clear H
 have H := H1
 clear H1
 replace H := Option.bind_eq_some_iff.mp H
 obtain ⟨t317, A110, H⟩ := H
 replace H : (if t317 = true then (some true) else (some false)) = some r := H
 have A11 := AZ.mk A110
 clear A110
 by_cases c12 : t317 = true
 ·subst c12
  have H1 : (some true) = some r := by rw [if_pos rfl] at H; exact H
  clear H
  have H := H1
  clear H1
  obtain rfl := Option.some.inj H
  go_enter Try.func11, Try.ntmps11
  go_wp2_with (first | ((with_reducible refine gate_dst (N := 2) rfl ?_); refine box_event ?hg (N := 2) ?hd (cs := #[.int .i64 a0_0, .int .i64 a0_1, .slice A0_2 l0_2.length c0_2, .slice A0_3 l0_3.length c0_3, .slice A0_4 l0_4.length c0_4, .slice A0_5 l0_5.length c0_5]) (t := 36) ?hr ?_; (case hd => rfl); (case hg => rfl); (case hr => first | (go_simp; done) | (go_simp; rfl)); intro gb312 hg w13 hbox hb; have n0_ := AZ.mk (pT (by repeat (first | (with_reducible first | exact HB.out | apply pA | apply pN | apply pD) | exact HB.out)) hb); have n1_ := AZ.mk (hbox); have n2_ := AZ.mk ((by rw [hg]; exact (pZ (by repeat (first | (with_reducible first | exact HB.out | apply pA | apply pN | apply pD) | exact HB.out))) : w.heap.size ≤ gb312)); have n3_ := AZ.mk ((by rw [hg]; exact (pZ (by repeat (first | (with_reducible first | exact HB.out | apply pA | apply pN | apply pD) | exact HB.out))) : w.heap.size ≤ gb312)); clear HB; have HB := n0_; have BK312 := n1_; have GW312 := n2_; have GE312 := n3_; clear n0_ n1_ n2_ n3_; clear hb hbox hg) | ((with_reducible refine gate_dst (N := 3) rfl ?_); refine box_event ?hg (N := 3) ?hd (cs := #[.int .i64 a1_0, .int .i64 a1_1, .slice A1_2 l1_2.length c1_2, .slice A1_3 l1_3.length c1_3, .slice A1_4 l1_4.length c1_4, .slice A1_5 l1_5.length c1_5]) (t := 36) ?hr ?_; (case hd => rfl); (case hg => rfl); (case hr => first | (go_simp; done) | (go_simp; rfl)); intro gb313 hg w14 hbox hb; have n0_ := AZ.mk (bb_ (g := gb312) (o := .cells #[.int .i64 a0_0, .int .i64 a0_1, .slice A0_2 l0_2.length c0_2, .slice A0_3 l0_3.length c0_3, .slice A0_4 l0_4.length c0_4, .slice A0_5 l0_5.length c0_5] 36 (0, 0)) (by (with_reducible repeat (first | refine bn_ ?_ _ | refine bd_ ?_ | refine ba_ ?_ _)); exact BK312.out) hb); have n1_ := AZ.mk (pT (by repeat (first | (with_reducible first | exact HB.out | apply pA | apply pN | apply pD | refine pS ?_ GE312.out) | exact HB.out)) hb); have n2_ := AZ.mk (hbox); have n3_ := AZ.mk ((by rw [hg]; exact (pZ (by repeat (first | (with_reducible first | exact HB.out | apply pA | apply pN | apply pD | refine pS ?_ GE312.out) | exact HB.out))) : w.heap.size ≤ gb313)); have n4_ := AZ.mk ((by rw [hg]; exact (pZ (by repeat (first | (with_reducible first | exact HB.out | apply pA | apply pN | apply pD | refine pS ?_ GE312.out) | exact HB.out))) : w.heap.size ≤ gb313)); have n5_ := AZ.mk ((by rw [hg]; exact Nat.ne_of_lt (blk_lt (g := gb312) (o := .cells #[.int .i64 a0_0, .int .i64 a0_1, .slice A0_2 l0_2.length c0_2, .slice A0_3 l0_3.length c0_3, .slice A0_4 l0_4.length c0_4, .slice A0_5 l0_5.length c0_5] 36 (0, 0)) (by (with_reducible repeat (first | refine bn_ ?_ _ | refine bd_ ?_ | refine ba_ ?_ _)); exact BK312.out)) : gb312 ≠ gb313)); have n6_ := AZ.mk ((by rw [hg]; exact Nat.ne_of_gt (blk_lt (g := gb312) (o := .cells #[.int .i64 a0_0, .int .i64 a0_1, .slice A0_2 l0_2.length c0_2, .slice A0_3 l0_3.length c0_3, .slice A0_4 l0_4.length c0_4, .slice A0_5 l0_5.length c0_5] 36 (0, 0)) (by (with_reducible repeat (first | refine bn_ ?_ _ | refine bd_ ?_ | refine ba_ ?_ _)); exact BK312.out)) : gb313 ≠ gb312)); clear BK312; clear HB; have BK312 := n0_; have HB := n1_; have BK313 := n2_; have GW313 := n3_; have GE313 := n4_; have NB312_313 := n5_; have NB313_312 := n6_; clear n0_ n1_ n2_ n3_ n4_ n5_ n6_; clear hb hbox hg; have hnb15 := NB312_313.out; have hnc15 := NB313_312.out; obtain ⟨hcz16_0, hcz16_1, hcz16_2, hcz16_3, hcz16_4, hcz16_5⟩ := c6 BK312.out; obtain ⟨hfz16_0, hfz16_1, hfz16_2, hfz16_3, hfz16_4, hfz16_5⟩ := f6 BK312.out; obtain ⟨hcz17_0, hcz17_1, hcz17_2, hcz17_3, hcz17_4, hcz17_5⟩ := c6 BK313.out; obtain ⟨hfz17_0, hfz17_1, hfz17_2, hfz17_3, hfz17_4, hfz17_5⟩ := f6 BK313.out) | ((with_reducible refine gate_callee (f := 34) rfl ?_); refine goesL_ (some 19) rfl rfl Try.func34 (by kernel_rfl) rfl #[.slice A0_2 l0_2.length c0_2, .slice A1_2 l1_2.length c1_2] rfl (by (try simp only [List.map_toArray, List.map_cons, List.map_nil]); first | done | rfl | (simp only [List.length_drop, List.length_take]; rfl)) ?_; (with_reducible refine (laws_eqBoolS.calls k _ _ l0_2 _ _ l1_2 true _ ?side1 ?side2 ?side3 ?side4 A5.out).mono ?_); (case side1 => repeat (first | exact (Kd.C_below HR0_2.out HB.out) | (with_reducible refine Kd.C_alloc ?_ _) | (with_reducible refine Kd.C_drewN ?_ _) | (with_reducible refine Kd.C_drew ?_))); (case side2 => exact HC0_2.out); (case side3 => repeat (first | exact (Kd.C_below HR1_2.out HB.out) | (with_reducible refine Kd.C_alloc ?_ _) | (with_reducible refine Kd.C_drewN ?_ _) | (with_reducible refine Kd.C_drew ?_))); (case side4 => exact HC1_2.out); rintro e w' ⟨rfl, ⟨nd, rfl⟩⟩; refine ⟨_, rfl, ?_⟩) | ((with_reducible refine gate_callee (f := 35) rfl ?_); refine goesL_ (some 25) rfl rfl Try.func35 (by kernel_rfl) rfl #[.slice A0_3 l0_3.length c0_3, .slice A1_3 l1_3.length c1_3] rfl (by (try simp only [List.map_toArray, List.map_cons, List.map_nil]); first | done | rfl | (simp only [List.length_drop, List.length_take]; rfl)) ?_; (with_reducible refine (laws_eqPushSS.calls k _ _ l0_3 _ _ l1_3 true _ ?side1 ?side2 ?side3 ?side4 A7.out).mono ?_); (case side1 => repeat (first | exact (Kd.C_below HR0_3.out (by repeat (first | (with_reducible first | exact HB.out | apply pA | apply pN | apply pD | refine pS ?_ GE312.out | refine pS ?_ GE313.out) | exact HB.out))) | (with_reducible refine Kd.C_alloc ?_ _) | (with_reducible refine Kd.C_drewN ?_ _) | (with_reducible refine Kd.C_drew ?_))); (case side2 => exact HC0_3.out); (case side3 => repeat (first | exact (Kd.C_below HR1_3.out (by repeat (first | (with_reducible first | exact HB.out | apply pA | apply pN | apply pD | refine pS ?_ GE312.out | refine pS ?_ GE313.out) | exact HB.out))) | (with_reducible refine Kd.C_alloc ?_ _) | (with_reducible refine Kd.C_drewN ?_ _) | (with_reducible refine Kd.C_drew ?_))); (case side4 => exact HC1_3.out); rintro e w18 ⟨rfl, hb⟩; refine ⟨_, rfl, ?_⟩; have n0_ := AZ.mk (bb_ (g := gb312) (o := .cells #[.int .i64 a0_0, .int .i64 a0_1, .slice A0_2 l0_2.length c0_2, .slice A0_3 l0_3.length c0_3, .slice A0_4 l0_4.length c0_4, .slice A0_5 l0_5.length c0_5] 36 (0, 0)) (by (with_reducible repeat (first | refine bn_ ?_ _ | refine bd_ ?_ | refine ba_ ?_ _)); exact BK312.out) hb); have n1_ := AZ.mk (bb_ (g := gb313) (o := .cells #[.int .i64 a1_0, .int .i64 a1_1, .slice A1_2 l1_2.length c1_2, .slice A1_3 l1_3.length c1_3, .slice A1_4 l1_4.length c1_4, .slice A1_5 l1_5.length c1_5] 36 (0, 0)) (by (with_reducible repeat (first | refine bn_ ?_ _ | refine bd_ ?_ | refine ba_ ?_ _)); exact BK313.out) hb); have n2_ := AZ.mk (pT (by repeat (first | (with_reducible first | exact HB.out | apply pA | apply pN | apply pD | refine pS ?_ GE312.out | refine pS ?_ GE313.out) | exact HB.out)) hb); clear BK312; clear BK313; clear HB; have BK312 := n0_; have BK313 := n1_; have HB := n2_; clear n0_ n1_ n2_; (try clear hb); (try clear hb2); (try clear hk); (try clear hi); obtain ⟨hcz19_0, hcz19_1, hcz19_2, hcz19_3, hcz19_4, hcz19_5⟩ := c6 BK312.out; obtain ⟨hfz19_0, hfz19_1, hfz19_2, hfz19_3, hfz19_4, hfz19_5⟩ := f6 BK312.out; obtain ⟨hcz20_0, hcz20_1, hcz20_2, hcz20_3, hcz20_4, hcz20_5⟩ := c6 BK313.out; obtain ⟨hfz20_0, hfz20_1, hfz20_2, hfz20_3, hfz20_4, hfz20_5⟩ := f6 BK313.out) | ((with_reducible refine gate_callee (f := 36) rfl ?_); refine goesL_ (some 31) rfl rfl Try.func36 (by kernel_rfl) rfl #[.slice A0_4 l0_4.length c0_4, .slice A1_4 l1_4.length c1_4] rfl (by (try simp only [List.map_toArray, List.map_cons, List.map_nil]); first | done | rfl | (simp only [List.length_drop, List.length_take]; rfl)) ?_; (with_reducible refine (laws_eqInt64SSS.calls k _ _ l0_4 _ _ l1_4 true _ ?side1 ?side2 ?side3 ?side4 A9.out).mono ?_); (case side1 => repeat (first | exact (Kd.C_below HR0_4.out HB.out) | (with_reducible refine Kd.C_alloc ?_ _) | (with_reducible refine Kd.C_drewN ?_ _) | (with_reducible refine Kd.C_drew ?_))); (case side2 => exact HC0_4.out); (case side3 => repeat (first | exact (Kd.C_below HR1_4.out HB.out) | (with_reducible refine Kd.C_alloc ?_ _) | (with_reducible refine Kd.C_drewN ?_ _) | (with_reducible refine Kd.C_drew ?_))); (case side4 => exact HC1_4.out); rintro e w' ⟨rfl, ⟨nd, rfl⟩⟩; refine ⟨_, rfl, ?_⟩) | ((with_reducible refine gate_callee (f := 37) rfl ?_); refine goesL_ (some 37) rfl rfl Try.func37 (by kernel_rfl) rfl #[.slice A0_5 l0_5.length c0_5, .slice A1_5 l1_5.length c1_5] rfl (by (try simp only [List.map_toArray, List.map_cons, List.map_nil]); first | done | rfl | (simp only [List.length_drop, List.length_take]; rfl)) ?_; (with_reducible refine (laws_eqInt64SS.calls k _ _ l0_5 _ _ l1_5 true _ ?side1 ?side2 ?side3 ?side4 A11.out).mono ?_); (case side1 => repeat (first | exact (Kd.C_below HR0_5.out (by repeat (first | (with_reducible first | exact HB.out | apply pA | apply pN | apply pD | refine pS ?_ GE312.out | refine pS ?_ GE313.out) | exact HB.out))) | (with_reducible refine Kd.C_alloc ?_ _) | (with_reducible refine Kd.C_drewN ?_ _) | (with_reducible refine Kd.C_drew ?_))); (case side2 => exact HC0_5.out); (case side3 => repeat (first | exact (Kd.C_below HR1_5.out (by repeat (first | (with_reducible first | exact HB.out | apply pA | apply pN | apply pD | refine pS ?_ GE312.out | refine pS ?_ GE313.out) | exact HB.out))) | (with_reducible refine Kd.C_alloc ?_ _) | (with_reducible refine Kd.C_drewN ?_ _) | (with_reducible refine Kd.C_drew ?_))); (case side4 => exact HC1_5.out); rintro e w' ⟨rfl, ⟨nd, rfl⟩⟩; refine ⟨_, rfl, ?_⟩))
  go_ret
  exact ⟨by first | rfl | (simp [errW_none, errW_some] <;> rfl) | (simp [*, errW_none, errW_some] <;> rfl), by repeat (first | (with_reducible first | exact HB.out | apply pA | apply pN | apply pD | refine pS ?_ GE312.out | refine pS ?_ GE313.out) | exact HB.out)⟩
 replace c12 := Bool.eq_false_iff.mpr c12
 subst c12
 have H1 : (some false) = some r := by rw [if_neg (show ¬ (false = true) by decide)] at H; exact H
 clear H
 have H := H1
 clear H1
 obtain rfl := Option.some.inj H
 go_enter Try.func11, Try.ntmps11
 go_wp2_with (first | ((with_reducible refine gate_dst (N := 2) rfl ?_); refine box_event ?hg (N := 2) ?hd (cs := #[.int .i64 a0_0, .int .i64 a0_1, .slice A0_2 l0_2.length c0_2, .slice A0_3 l0_3.length c0_3, .slice A0_4 l0_4.length c0_4, .slice A0_5 l0_5.length c0_5]) (t := 36) ?hr ?_; (case hd => rfl); (case hg => rfl); (case hr => first | (go_simp; done) | (go_simp; rfl)); intro gb312 hg w21 hbox hb; have n0_ := AZ.mk (pT (by repeat (first | (with_reducible first | exact HB.out | apply pA | apply pN | apply pD) | exact HB.out)) hb); have n1_ := AZ.mk (hbox); have n2_ := AZ.mk ((by rw [hg]; exact (pZ (by repeat (first | (with_reducible first | exact HB.out | apply pA | apply pN | apply pD) | exact HB.out))) : w.heap.size ≤ gb312)); have n3_ := AZ.mk ((by rw [hg]; exact (pZ (by repeat (first | (with_reducible first | exact HB.out | apply pA | apply pN | apply pD) | exact HB.out))) : w.heap.size ≤ gb312)); clear HB; have HB := n0_; have BK312 := n1_; have GW312 := n2_; have GE312 := n3_; clear n0_ n1_ n2_ n3_; clear hb hbox hg) | ((with_reducible refine gate_dst (N := 3) rfl ?_); refine box_event ?hg (N := 3) ?hd (cs := #[.int .i64 a1_0, .int .i64 a1_1, .slice A1_2 l1_2.length c1_2, .slice A1_3 l1_3.length c1_3, .slice A1_4 l1_4.length c1_4, .slice A1_5 l1_5.length c1_5]) (t := 36) ?hr ?_; (case hd => rfl); (case hg => rfl); (case hr => first | (go_simp; done) | (go_simp; rfl)); intro gb313 hg w22 hbox hb; have n0_ := AZ.mk (bb_ (g := gb312) (o := .cells #[.int .i64 a0_0, .int .i64 a0_1, .slice A0_2 l0_2.length c0_2, .slice A0_3 l0_3.length c0_3, .slice A0_4 l0_4.length c0_4, .slice A0_5 l0_5.length c0_5] 36 (0, 0)) (by (with_reducible repeat (first | refine bn_ ?_ _ | refine bd_ ?_ | refine ba_ ?_ _)); exact BK312.out) hb); have n1_ := AZ.mk (pT (by repeat (first | (with_reducible first | exact HB.out | apply pA | apply pN | apply pD | refine pS ?_ GE312.out) | exact HB.out)) hb); have n2_ := AZ.mk (hbox); have n3_ := AZ.mk ((by rw [hg]; exact (pZ (by repeat (first | (with_reducible first | exact HB.out | apply pA | apply pN | apply pD | refine pS ?_ GE312.out) | exact HB.out))) : w.heap.size ≤ gb313)); have n4_ := AZ.mk ((by rw [hg]; exact (pZ (by repeat (first | (with_reducible first | exact HB.out | apply pA | apply pN | apply pD | refine pS ?_ GE312.out) | exact HB.out))) : w.heap.size ≤ gb313)); have n5_ := AZ.mk ((by rw [hg]; exact Nat.ne_of_lt (blk_lt (g := gb312) (o := .cells #[.int .i64 a0_0, .int .i64 a0_1, .slice A0_2 l0_2.length c0_2, .slice A0_3 l0_3.length c0_3, .slice A0_4 l0_4.length c0_4, .slice A0_5 l0_5.length c0_5] 36 (0, 0)) (by (with_reducible repeat (first | refine bn_ ?_ _ | refine bd_ ?_ | refine ba_ ?_ _)); exact BK312.out)) : gb312 ≠ gb313)); have n6_ := AZ.mk ((by rw [hg]; exact Nat.ne_of_gt (blk_lt (g := gb312) (o := .cells #[.int .i64 a0_0, .int .i64 a0_1, .slice A0_2 l0_2.length c0_2, .slice A0_3 l0_3.length c0_3, .slice A0_4 l0_4.length c0_4, .slice A0_5 l0_5.length c0_5] 36 (0, 0)) (by (with_reducible repeat (first | refine bn_ ?_ _ | refine bd_ ?_ | refine ba_ ?_ _)); exact BK312.out)) : gb313 ≠ gb312)); clear BK312; clear HB; have BK312 := n0_; have HB := n1_; have BK313 := n2_; have GW313 := n3_; have GE313 := n4_; have NB312_313 := n5_; have NB313_312 := n6_; clear n0_ n1_ n2_ n3_ n4_ n5_ n6_; clear hb hbox hg; have hnb23 := NB312_313.out; have hnc23 := NB313_312.out; obtain ⟨hcz24_0, hcz24_1, hcz24_2, hcz24_3, hcz24_4, hcz24_5⟩ := c6 BK312.out; obtain ⟨hfz24_0, hfz24_1, hfz24_2, hfz24_3, hfz24_4, hfz24_5⟩ := f6 BK312.out; obtain ⟨hcz25_0, hcz25_1, hcz25_2, hcz25_3, hcz25_4, hcz25_5⟩ := c6 BK313.out; obtain ⟨hfz25_0, hfz25_1, hfz25_2, hfz25_3, hfz25_4, hfz25_5⟩ := f6 BK313.out) | ((with_reducible refine gate_callee (f := 34) rfl ?_); refine goesL_ (some 19) rfl rfl Try.func34 (by kernel_rfl) rfl #[.slice A0_2 l0_2.length c0_2, .slice A1_2 l1_2.length c1_2] rfl (by (try simp only [List.map_toArray, List.map_cons, List.map_nil]); first | done | rfl | (simp only [List.length_drop, List.length_take]; rfl)) ?_; (with_reducible refine (laws_eqBoolS.calls k _ _ l0_2 _ _ l1_2 true _ ?side1 ?side2 ?side3 ?side4 A5.out).mono ?_); (case side1 => repeat (first | exact (Kd.C_below HR0_2.out HB.out) | (with_reducible refine Kd.C_alloc ?_ _) | (with_reducible refine Kd.C_drewN ?_ _) | (with_reducible refine Kd.C_drew ?_))); (case side2 => exact HC0_2.out); (case side3 => repeat (first | exact (Kd.C_below HR1_2.out HB.out) | (with_reducible refine Kd.C_alloc ?_ _) | (with_reducible refine Kd.C_drewN ?_ _) | (with_reducible refine Kd.C_drew ?_))); (case side4 => exact HC1_2.out); rintro e w' ⟨rfl, ⟨nd, rfl⟩⟩; refine ⟨_, rfl, ?_⟩) | ((with_reducible refine gate_callee (f := 35) rfl ?_); refine goesL_ (some 25) rfl rfl Try.func35 (by kernel_rfl) rfl #[.slice A0_3 l0_3.length c0_3, .slice A1_3 l1_3.length c1_3] rfl (by (try simp only [List.map_toArray, List.map_cons, List.map_nil]); first | done | rfl | (simp only [List.length_drop, List.length_take]; rfl)) ?_; (with_reducible refine (laws_eqPushSS.calls k _ _ l0_3 _ _ l1_3 true _ ?side1 ?side2 ?side3 ?side4 A7.out).mono ?_); (case side1 => repeat (first | exact (Kd.C_below HR0_3.out (by repeat (first | (with_reducible first | exact HB.out | apply pA | apply pN | apply pD | refine pS ?_ GE312.out | refine pS ?_ GE313.out) | exact HB.out))) | (with_reducible refine Kd.C_alloc ?_ _) | (with_reducible refine Kd.C_drewN ?_ _) | (with_reducible refine Kd.C_drew ?_))); (case side2 => exact HC0_3.out); (case side3 => repeat (first | exact (Kd.C_below HR1_3.out (by repeat (first | (with_reducible first | exact HB.out | apply pA | apply pN | apply pD | refine pS ?_ GE312.out | refine pS ?_ GE313.out) | exact HB.out))) | (with_reducible refine Kd.C_alloc ?_ _) | (with_reducible refine Kd.C_drewN ?_ _) | (with_reducible refine Kd.C_drew ?_))); (case side4 => exact HC1_3.out); rintro e w26 ⟨rfl, hb⟩; refine ⟨_, rfl, ?_⟩; have n0_ := AZ.mk (bb_ (g := gb312) (o := .cells #[.int .i64 a0_0, .int .i64 a0_1, .slice A0_2 l0_2.length c0_2, .slice A0_3 l0_3.length c0_3, .slice A0_4 l0_4.length c0_4, .slice A0_5 l0_5.length c0_5] 36 (0, 0)) (by (with_reducible repeat (first | refine bn_ ?_ _ | refine bd_ ?_ | refine ba_ ?_ _)); exact BK312.out) hb); have n1_ := AZ.mk (bb_ (g := gb313) (o := .cells #[.int .i64 a1_0, .int .i64 a1_1, .slice A1_2 l1_2.length c1_2, .slice A1_3 l1_3.length c1_3, .slice A1_4 l1_4.length c1_4, .slice A1_5 l1_5.length c1_5] 36 (0, 0)) (by (with_reducible repeat (first | refine bn_ ?_ _ | refine bd_ ?_ | refine ba_ ?_ _)); exact BK313.out) hb); have n2_ := AZ.mk (pT (by repeat (first | (with_reducible first | exact HB.out | apply pA | apply pN | apply pD | refine pS ?_ GE312.out | refine pS ?_ GE313.out) | exact HB.out)) hb); clear BK312; clear BK313; clear HB; have BK312 := n0_; have BK313 := n1_; have HB := n2_; clear n0_ n1_ n2_; (try clear hb); (try clear hb2); (try clear hk); (try clear hi); obtain ⟨hcz27_0, hcz27_1, hcz27_2, hcz27_3, hcz27_4, hcz27_5⟩ := c6 BK312.out; obtain ⟨hfz27_0, hfz27_1, hfz27_2, hfz27_3, hfz27_4, hfz27_5⟩ := f6 BK312.out; obtain ⟨hcz28_0, hcz28_1, hcz28_2, hcz28_3, hcz28_4, hcz28_5⟩ := c6 BK313.out; obtain ⟨hfz28_0, hfz28_1, hfz28_2, hfz28_3, hfz28_4, hfz28_5⟩ := f6 BK313.out) | ((with_reducible refine gate_callee (f := 36) rfl ?_); refine goesL_ (some 31) rfl rfl Try.func36 (by kernel_rfl) rfl #[.slice A0_4 l0_4.length c0_4, .slice A1_4 l1_4.length c1_4] rfl (by (try simp only [List.map_toArray, List.map_cons, List.map_nil]); first | done | rfl | (simp only [List.length_drop, List.length_take]; rfl)) ?_; (with_reducible refine (laws_eqInt64SSS.calls k _ _ l0_4 _ _ l1_4 true _ ?side1 ?side2 ?side3 ?side4 A9.out).mono ?_); (case side1 => repeat (first | exact (Kd.C_below HR0_4.out HB.out) | (with_reducible refine Kd.C_alloc ?_ _) | (with_reducible refine Kd.C_drewN ?_ _) | (with_reducible refine Kd.C_drew ?_))); (case side2 => exact HC0_4.out); (case side3 => repeat (first | exact (Kd.C_below HR1_4.out HB.out) | (with_reducible refine Kd.C_alloc ?_ _) | (with_reducible refine Kd.C_drewN ?_ _) | (with_reducible refine Kd.C_drew ?_))); (case side4 => exact HC1_4.out); rintro e w' ⟨rfl, ⟨nd, rfl⟩⟩; refine ⟨_, rfl, ?_⟩) | ((with_reducible refine gate_callee (f := 37) rfl ?_); refine goesL_ (some 37) rfl rfl Try.func37 (by kernel_rfl) rfl #[.slice A0_5 l0_5.length c0_5, .slice A1_5 l1_5.length c1_5] rfl (by (try simp only [List.map_toArray, List.map_cons, List.map_nil]); first | done | rfl | (simp only [List.length_drop, List.length_take]; rfl)) ?_; (with_reducible refine (laws_eqInt64SS.calls k _ _ l0_5 _ _ l1_5 false _ ?side1 ?side2 ?side3 ?side4 A11.out).mono ?_); (case side1 => repeat (first | exact (Kd.C_below HR0_5.out (by repeat (first | (with_reducible first | exact HB.out | apply pA | apply pN | apply pD | refine pS ?_ GE312.out | refine pS ?_ GE313.out) | exact HB.out))) | (with_reducible refine Kd.C_alloc ?_ _) | (with_reducible refine Kd.C_drewN ?_ _) | (with_reducible refine Kd.C_drew ?_))); (case side2 => exact HC0_5.out); (case side3 => repeat (first | exact (Kd.C_below HR1_5.out (by repeat (first | (with_reducible first | exact HB.out | apply pA | apply pN | apply pD | refine pS ?_ GE312.out | refine pS ?_ GE313.out) | exact HB.out))) | (with_reducible refine Kd.C_alloc ?_ _) | (with_reducible refine Kd.C_drewN ?_ _) | (with_reducible refine Kd.C_drew ?_))); (case side4 => exact HC1_5.out); rintro e w' ⟨rfl, ⟨nd, rfl⟩⟩; refine ⟨_, rfl, ?_⟩))
 go_ret
 exact ⟨by first | rfl | (simp [errW_none, errW_some] <;> rfl) | (simp [*, errW_none, errW_some] <;> rfl), by repeat (first | (with_reducible first | exact HB.out | apply pA | apply pN | apply pD | refine pS ?_ GE312.out | refine pS ?_ GE313.out) | exact HB.out)⟩
end Go.Proofs.Ytlmkkmoammgjdaa.P
namespace Go.Proofs.Ytlmkkmoammgjdaa.P
open Go.RowKit Go.Proofs.YtlmkkmoammgjdaaW.PrintWords Go.Proofs.YtlmkkmoammgjdaaW.PrintLast Go.Proofs.YtlmkkmoammgjdaaW.PrintMore
attribute [local go_sem] max2_int min2_int max_two min_two max_three min_three max_four min_four
set_option linter.unusedVariables false
set_option linter.unusedSimpArgs false
def laws_FnExactCountTaken.j0 : Nat → Bool → Int → Int → List Bool → List (List (S112)) → List (List (List Int)) → List (List Int) → Int → Int → List Bool → List (List (S92)) → List (List (List Int)) → List (List Int) → Option (Bool)
 | 0, _, _, _, _, _, _, _, _, _, _, _, _, _ => none
 | k + 1, x38, x319000, x319001, x319002, x319003, x319004, x319005, x351000, x351001, x351002, x351003, x351004, x351005 => if x38 = true then (some false) else ((laws_toChecker.f k x319000 x319001 x319002 x319003 x319004 x319005).bind fun bt353 => ((laws_eqChecker.f k x351000 x351001 x351002 x351003 x351004 x351005 bt353.1 bt353.2.1 bt353.2.2.1 bt353.2.2.2.1 bt353.2.2.2.2.1 bt353.2.2.2.2.2).bind fun t367 => (if t367 = true then (some true) else (some false))))
def laws_FnExactCountTaken.f (k : Nat) (a0_0 : Int) (a0_1 : Int) (l0_2 : List Bool) (l0_3 : List (List (S112))) (l0_4 : List (List (List Int))) (l0_5 : List (List Int)) (a1 : Int) : Option (Bool) := (laws_szChecker.f k a0_0 a0_1 l0_2 l0_3 l0_4 l0_5 1048576).bind fun t319 => (if t319 < 0 then (some true) else ((laws_toChecker.f k a0_0 a0_1 l0_2 l0_3 l0_4 l0_5).bind fun bt320 => ((spec_CountTaken.f k bt320.1 bt320.2.1 bt320.2.2.1 bt320.2.2.2.1 bt320.2.2.2.2.1 bt320.2.2.2.2.2 a1).bind fun bt334 => ((laws_toChecker.f k a0_0 a0_1 l0_2 l0_3 l0_4 l0_5).bind fun bt336 => ((impl_CountTaken.f k bt336.1 bt336.2.1 bt336.2.2.1 bt336.2.2.2.1 bt336.2.2.2.2.1 bt336.2.2.2.2.2 a1).bind fun bt351 => (if bt351.1 = bt334.1 then (laws_FnExactCountTaken.j0 k (bt351.2 != bt334.2) a0_0 a0_1 l0_2 l0_3 l0_4 l0_5 bt336.1 bt336.2.1 bt336.2.2.1 bt336.2.2.2.1 bt336.2.2.2.2.1 bt336.2.2.2.2.2) else (laws_FnExactCountTaken.j0 k true a0_0 a0_1 l0_2 l0_3 l0_4 l0_5 bt336.1 bt336.2.1 bt336.2.2.1 bt336.2.2.2.1 bt336.2.2.2.2.1 bt336.2.2.2.2.2)))))))
set_option maxHeartbeats 8000000 in
set_option maxRecDepth 100000 in
theorem laws_FnExactCountTaken.calls (k : Nat) (a0_0 : Int) (a0_1 : Int) (A0_2 : Option Addr) (c0_2 : Nat) (l0_2 : List Bool) (A0_3 : Option Addr) (c0_3 : Nat) (l0_3 : List (List (S112))) (A0_4 : Option Addr) (c0_4 : Nat) (l0_4 : List (List (List Int))) (A0_5 : Option Addr) (c0_5 : Nat) (l0_5 : List (List Int)) (a1 : Int) (r : Bool) (w : World) (hr0_2 : Kd.C Kd.bool w A0_2 l0_2.length l0_2) (hc0_2 : l0_2.length ≤ c0_2) (hr0_3 : Kd.C (Kd.slice 112 k112) w A0_3 l0_3.length l0_3) (hc0_3 : l0_3.length ≤ c0_3) (hr0_4 : Kd.C (Kd.slice 60 (Kd.slice 2 (Kd.int .i64))) w A0_4 l0_4.length l0_4) (hc0_4 : l0_4.length ≤ c0_4) (hr0_5 : Kd.C (Kd.slice 2 (Kd.int .i64)) w A0_5 l0_5.length l0_5) (hc0_5 : l0_5.length ≤ c0_5) (h : laws_FnExactCountTaken.f k a0_0 a0_1 l0_2 l0_3 l0_4 l0_5 a1 = some r) :
  Calls Try.prog 4 #[.agg #[.int .i64 a0_0, .int .i64 a0_1, .slice A0_2 l0_2.length c0_2, .slice A0_3 l0_3.length c0_3, .slice A0_4 l0_4.length c0_4, .slice A0_5 l0_5.length c0_5], .int .i64 a1] w fun e w' => e = .returned (.bool r) ∧ Below w.heap.size w w' := by
 have hu30 := Try.underlying30
 have hu36 := Try.underlying36
 have HR0_2 := AZ.mk hr0_2
 have HC0_2 := AZ.mk hc0_2
 clear hr0_2 hc0_2
 have HR0_3 := AZ.mk hr0_3
 have HC0_3 := AZ.mk hc0_3
 clear hr0_3 hc0_3
 have HR0_4 := AZ.mk hr0_4
 have HC0_4 := AZ.mk hc0_4
 clear hr0_4 hc0_4
 have HR0_5 := AZ.mk hr0_5
 have HC0_5 := AZ.mk hc0_5
 clear hr0_5 hc0_5
 have HB := AZ.mk (Below.refl w.heap.size w)
 have H : ((laws_szChecker.f k a0_0 a0_1 l0_2 l0_3 l0_4 l0_5 1048576).bind fun t319 => (if t319 < 0 then (some true) else ((laws_toChecker.f k a0_0 a0_1 l0_2 l0_3 l0_4 l0_5).bind fun bt320 => ((spec_CountTaken.f k bt320.1 bt320.2.1 bt320.2.2.1 bt320.2.2.2.1 bt320.2.2.2.2.1 bt320.2.2.2.2.2 a1).bind fun bt334 => ((laws_toChecker.f k a0_0 a0_1 l0_2 l0_3 l0_4 l0_5).bind fun bt336 => ((impl_CountTaken.f k bt336.1 bt336.2.1 bt336.2.2.1 bt336.2.2.2.1 bt336.2.2.2.2.1 bt336.2.2.2.2.2 a1).bind fun bt351 => (if bt351.1 = bt334.1 then (laws_FnExactCountTaken.j0 k (bt351.2 != bt334.2) a0_0 a0_1 l0_2 l0_3 l0_4 l0_5 bt336.1 bt336.2.1 bt336.2.2.1 bt336.2.2.2.1 bt336.2.2.2.2.1 bt336.2.2.2.2.2) else (laws_FnExactCountTaken.j0 k true a0_0 a0_1 l0_2 l0_3 l0_4 l0_5 bt336.1 bt336.2.1 bt336.2.2.1 bt336.2.2.2.1 bt336.2.2.2.2.1 bt336.2.2.2.2.2)))))))) = some r := h
 clear h
 replace H := Option.bind_eq_some_iff.mp H
 obtain ⟨t319, A30, H⟩ := H
 replace H : (if t319 < 0 then (some true) else ((laws_toChecker.f k a0_0 a0_1 l0_2 l0_3 l0_4 l0_5).bind fun bt320 => ((spec_CountTaken.f k bt320.1 bt320.2.1 bt320.2.2.1 bt320.2.2.2.1 bt320.2.2.2.2.1 bt320.2.2.2.2.2 a1).bind fun bt334 => ((laws_toChecker.f k a0_0 a0_1 l0_2 l0_3 l0_4 l0_5).bind fun bt336 => ((impl_CountTaken.f k bt336.1 bt336.2.1 bt336.2.2.1 bt336.2.2.2.1 bt336.2.2.2.2.1 bt336.2.2.2.2.2 a1).bind fun bt351 => (if bt351.1 = bt334.1 then (laws_FnExactCountTaken.j0 k (bt351.2 != bt334.2) a0_0 a0_1 l0_2 l0_3 l0_4 l0_5 bt336.1 bt336.2.1 bt336.2.2.1 bt336.2.2.2.1 bt336.2.2.2.2.1 bt336.2.2.2.2.2) else (laws_FnExactCountTaken.j0 k true a0_0 a0_1 l0_2 l0_3 l0_4 l0_5 bt336.1 bt336.2.1 bt336.2.2.1 bt336.2.2.2.1 bt336.2.2.2.2.1 bt336.2.2.2.2.2))))))) = some r := H
 have A3 := AZ.mk A30
 clear A30
 by_cases c4 : t319 < 0
 ·rw [if_pos c4] at H
  have c4b0 : decide (t319 < 0) = true := decide_eq_true c4
  clear c4
  obtain rfl := Option.some.inj H
  go_enter Try.func4, Try.ntmps4
  go_wp2_with (first | ((with_reducible refine gate_dst (N := 2) rfl ?_); refine box_event ?hg (N := 2) ?hd (cs := #[.int .i64 a0_0, .int .i64 a0_1, .slice A0_2 l0_2.length c0_2, .slice A0_3 l0_3.length c0_3, .slice A0_4 l0_4.length c0_4, .slice A0_5 l0_5.length c0_5]) (t := 30) ?hr ?_; (case hd => rfl); (case hg => rfl); (case hr => first | (go_simp; done) | (go_simp; rfl)); intro gb318 hg w5 hbox hb; have n0_ := AZ.mk (pT (by repeat (first | (with_reducible first | exact HB.out | apply pA | apply pN | apply pD) | exact HB.out)) hb); have n1_ := AZ.mk (hbox); have n2_ := AZ.mk ((by rw [hg]; exact (pZ (by repeat (first | (with_reducible first | exact HB.out | apply pA | apply pN | apply pD) | exact HB.out))) : w.heap.size ≤ gb318)); have n3_ := AZ.mk ((by rw [hg]; exact (pZ (by repeat (first | (with_reducible first | exact HB.out | apply pA | apply pN | apply pD) | exact HB.out))) : w.heap.size ≤ gb318)); clear HB; have HB := n0_; have BK318 := n1_; have GW318 := n2_; have GE318 := n3_; clear n0_ n1_ n2_ n3_; clear hb hbox hg; obtain ⟨hcz6_0, hcz6_1, hcz6_2, hcz6_3, hcz6_4, hcz6_5⟩ := c6 BK318.out; obtain ⟨hfz6_0, hfz6_1, hfz6_2, hfz6_3, hfz6_4, hfz6_5⟩ := f6 BK318.out) | ((with_reducible refine gate_callee (f := 7) rfl ?_); refine goesL_ (some 13) rfl rfl Try.func7 (by kernel_rfl) rfl #[.agg #[.int .i64 a0_0, .int .i64 a0_1, .slice A0_2 l0_2.length c0_2, .slice A0_3 l0_3.length c0_3, .slice A0_4 l0_4.length c0_4, .slice A0_5 l0_5.length c0_5], .int .i64 1048576] rfl (by (try simp only [List.map_toArray, List.map_cons, List.map_nil]); first | done | rfl | (simp only [List.length_drop, List.length_take]; rfl)) ?_; (with_reducible refine (laws_szChecker.calls k a0_0 a0_1 _ _ l0_2 _ _ l0_3 _ _ l0_4 _ _ l0_5 1048576 t319 _ ?side1 ?side2 ?side3 ?side4 ?side5 ?side6 ?side7 ?side8 A3.out).mono ?_); (case side1 => repeat (first | exact (Kd.C_below HR0_2.out HB.out) | (with_reducible refine Kd.C_alloc ?_ _) | (with_reducible refine Kd.C_drewN ?_ _) | (with_reducible refine Kd.C_drew ?_))); (case side2 => exact HC0_2.out); (case side3 => repeat (first | exact (Kd.C_below HR0_3.out HB.out) | (with_reducible refine Kd.C_alloc ?_ _) | (with_reducible refine Kd.C_drewN ?_ _) | (with_reducible refine Kd.C_drew ?_))); (case side4 => exact HC0_3.out); (case side5 => repeat (first | exact (Kd.C_below HR0_4.out HB.out) | (with_reducible refine Kd.C_alloc ?_ _) | (with_reducible refine Kd.C_drewN ?_ _) | (with_reducible refine Kd.C_drew ?_))); (case side6 => exact HC0_4.out); (case side7 => repeat (first | exact (Kd.C_below HR0_5.out HB.out) | (with_reducible refine Kd.C_alloc ?_ _) | (with_reducible refine Kd.C_drewN ?_ _) | (with_reducible refine Kd.C_drew ?_))); (case side8 => exact HC0_5.out); rintro e w7 ⟨rfl, hb⟩; refine ⟨_, rfl, ?_⟩; have n0_ := AZ.mk (bb_ (g := gb318) (o := .cells #[.int .i64 a0_0, .int .i64 a0_1, .slice A0_2 l0_2.length c0_2, .slice A0_3 l0_3.length c0_3, .slice A0_4 l0_4.length c0_4, .slice A0_5 l0_5.length c0_5] 30 (0, 0)) (by (with_reducible repeat (first | refine bn_ ?_ _ | refine bd_ ?_ | refine ba_ ?_ _)); exact BK318.out) hb); have n1_ := AZ.mk (pT (by repeat (first | (with_reducible first | exact HB.out | apply pA | apply pN | apply pD | refine pS ?_ GE318.out) | exact HB.out)) hb); clear BK318; clear HB; have BK318 := n0_; have HB := n1_; clear n0_ n1_; (try clear hb); (try clear hb2); (try clear hk); (try clear hi)))
  go_ret
  exact ⟨by first | rfl | (simp [errW_none, errW_some] <;> rfl) | (simp [*, errW_none, errW_some] <;> rfl), by repeat (first | (with_reducible first | exact HB.out | apply pA | apply pN | apply pD | refine pS ?_ GE318.out) | exact HB.out)⟩
 rw [if_neg c4] at H
 have c4b0 : decide (t319 < 0) = false := decide_eq_false c4
 clear c4
 replace H := Option.bind_eq_some_iff.mp H
 obtain ⟨⟨t320, t321, t322, t325, t328, t331⟩, A80, H⟩ := H
 replace H : ((spec_CountTaken.f k t320 t321 t322 t325 t328 t331 a1).bind fun bt334 => ((laws_toChecker.f k a0_0 a0_1 l0_2 l0_3 l0_4 l0_5).bind fun bt336 => ((impl_CountTaken.f k bt336.1 bt336.2.1 bt336.2.2.1 bt336.2.2.2.1 bt336.2.2.2.2.1 bt336.2.2.2.2.2 a1).bind fun bt351 => (if bt351.1 = bt334.1 then (laws_FnExactCountTaken.j0 k (bt351.2 != bt334.2) a0_0 a0_1 l0_2 l0_3 l0_4 l0_5 bt336.1 bt336.2.1 bt336.2.2.1 bt336.2.2.2.1 bt336.2.2.2.2.1 bt336.2.2.2.2.2) else (laws_FnExactCountTaken.j0 k true a0_0 a0_1 l0_2 l0_3 l0_4 l0_5 bt336.1 bt336.2.1 bt336.2.2.1 bt336.2.2.2.1 bt336.2.2.2.2.1 bt336.2.2.2.2.2))))) = some r := H
 have A8 := AZ.mk A80
 clear A80
 replace H := Option.bind_eq_some_iff.mp H
 obtain ⟨⟨t334, t335⟩, A90, H⟩ := H
 replace H : ((laws_toChecker.f k a0_0 a0_1 l0_2 l0_3 l0_4 l0_5).bind fun bt336 => ((impl_CountTaken.f k bt336.1 bt336.2.1 bt336.2.2.1 bt336.2.2.2.1 bt336.2.2.2.2.1 bt336.2.2.2.2.2 a1).bind fun bt351 => (if bt351.1 = t334 then (laws_FnExactCountTaken.j0 k (bt351.2 != t335) a0_0 a0_1 l0_2 l0_3 l0_4 l0_5 bt336.1 bt336.2.1 bt336.2.2.1 bt336.2.2.2.1 bt336.2.2.2.2.1 bt336.2.2.2.2.2) else (laws_FnExactCountTaken.j0 k true a0_0 a0_1 l0_2 l0_3 l0_4 l0_5 bt336.1 bt336.2.1 bt336.2.2.1 bt336.2.2.2.1 bt336.2.2.2.2.1 bt336.2.2.2.2.2)))) = some r := H
 have A9 := AZ.mk A90
 clear A90
 replace H := Option.bind_eq_some_iff.mp H
 obtain ⟨⟨t336, t337, t338, t341, t344, t347⟩, A100, H⟩ := H
 replace H : ((impl_CountTaken.f k t336 t337 t338 t341 t344 t347 a1).bind fun bt351 => (if bt351.1 = t334 then (laws_FnExactCountTaken.j0 k (bt351.2 != t335) a0_0 a0_1 l0_2 l0_3 l0_4 l0_5 t336 t337 t338 t341 t344 t347) else (laws_FnExactCountTaken.j0 k true a0_0 a0_1 l0_2 l0_3 l0_4 l0_5 t336 t337 t338 t341 t344 t347))) = some r := H
 have A10 := AZ.mk A100
 clear A100
 replace H := Option.bind_eq_some_iff.mp H
 obtain ⟨⟨t351, t352⟩, A110, H⟩ := H
 replace H : (if t351 = t334 then (laws_FnExactCountTaken.j0 k (t352 != t335) a0_0 a0_1 l0_2 l0_3 l0_4 l0_5 t336 t337 t338 t341 t344 t347) else (laws_FnExactCountTaken.j0 k true a0_0 a0_1 l0_2 l0_3 l0_4 l0_5 t336 t337 t338 t341 t344 t347)) = some r := H
 have A11 := AZ.mk A110
 clear A110
 have HC12 := AZ.mk H
 clear H
 go_enter Try.func4, Try.ntmps4
 go_upto_region 8 with (first | ((with_reducible refine gate_dst (N := 2) rfl ?_); refine box_event ?hg (N := 2) ?hd (cs := #[.int .i64 a0_0, .int .i64 a0_1, .slice A0_2 l0_2.length c0_2, .slice A0_3 l0_3.length c0_3, .slice A0_4 l0_4.length c0_4, .slice A0_5 l0_5.length c0_5]) (t := 30) ?hr ?_; (case hd => rfl); (case hg => rfl); (case hr => first | (go_simp; done) | (go_simp; rfl)); intro gb318 hg w13 hbox hb; have n0_ := AZ.mk (pT (by repeat (first | (with_reducible first | exact HB.out | apply pA | apply pN | apply pD) | exact HB.out)) hb); have n1_ := AZ.mk (hbox); have n2_ := AZ.mk ((by rw [hg]; exact (pZ (by repeat (first | (with_reducible first | exact HB.out | apply pA | apply pN | apply pD) | exact HB.out))) : w.heap.size ≤ gb318)); have n3_ := AZ.mk ((by rw [hg]; exact (pZ (by repeat (first | (with_reducible first | exact HB.out | apply pA | apply pN | apply pD) | exact HB.out))) : w.heap.size ≤ gb318)); clear HB; have HB := n0_; have BK318 := n1_; have GW318 := n2_; have GE318 := n3_; clear n0_ n1_ n2_ n3_; clear hb hbox hg; obtain ⟨hcz14_0, hcz14_1, hcz14_2, hcz14_3, hcz14_4, hcz14_5⟩ := c6 BK318.out; obtain ⟨hfz14_0, hfz14_1, hfz14_2, hfz14_3, hfz14_4, hfz14_5⟩ := f6 BK318.out) | ((with_reducible refine gate_callee (f := 7) rfl ?_); refine goesL_ (some 13) rfl rfl Try.func7 (by kernel_rfl) rfl #[.agg #[.int .i64 a0_0, .int .i64 a0_1, .slice A0_2 l0_2.length c0_2, .slice A0_3 l0_3.length c0_3, .slice A0_4 l0_4.length c0_4, .slice A0_5 l0_5.length c0_5], .int .i64 1048576] rfl (by (try simp only [List.map_toArray, List.map_cons, List.map_nil]); first | done | rfl | (simp only [List.length_drop, List.length_take]; rfl)) ?_; (with_reducible refine (laws_szChecker.calls k a0_0 a0_1 _ _ l0_2 _ _ l0_3 _ _ l0_4 _ _ l0_5 1048576 t319 _ ?side1 ?side2 ?side3 ?side4 ?side5 ?side6 ?side7 ?side8 A3.out).mono ?_); (case side1 => repeat (first | exact (Kd.C_below HR0_2.out HB.out) | (with_reducible refine Kd.C_alloc ?_ _) | (with_reducible refine Kd.C_drewN ?_ _) | (with_reducible refine Kd.C_drew ?_))); (case side2 => exact HC0_2.out); (case side3 => repeat (first | exact (Kd.C_below HR0_3.out HB.out) | (with_reducible refine Kd.C_alloc ?_ _) | (with_reducible refine Kd.C_drewN ?_ _) | (with_reducible refine Kd.C_drew ?_))); (case side4 => exact HC0_3.out); (case side5 => repeat (first | exact (Kd.C_below HR0_4.out HB.out) | (with_reducible refine Kd.C_alloc ?_ _) | (with_reducible refine Kd.C_drewN ?_ _) | (with_reducible refine Kd.C_drew ?_))); (case side6 => exact HC0_4.out); (case side7 => repeat (first | exact (Kd.C_below HR0_5.out HB.out) | (with_reducible refine Kd.C_alloc ?_ _) | (with_reducible refine Kd.C_drewN ?_ _) | (with_reducible refine Kd.C_drew ?_))); (case side8 => exact HC0_5.out); rintro e w15 ⟨rfl, hb⟩; refine ⟨_, rfl, ?_⟩; have n0_ := AZ.mk (bb_ (g := gb318) (o := .cells #[.int .i64 a0_0, .int .i64 a0_1, .slice A0_2 l0_2.length c0_2, .slice A0_3 l0_3.length c0_3, .slice A0_4 l0_4.length c0_4, .slice A0_5 l0_5.length c0_5] 30 (0, 0)) (by (with_reducible repeat (first | refine bn_ ?_ _ | refine bd_ ?_ | refine ba_ ?_ _)); exact BK318.out) hb); have n1_ := AZ.mk (pT (by repeat (first | (with_reducible first | exact HB.out | apply pA | apply pN | apply pD | refine pS ?_ GE318.out) | exact HB.out)) hb); clear BK318; clear HB; have BK318 := n0_; have HB := n1_; clear n0_ n1_; (try clear hb); (try clear hb2); (try clear hk); (try clear hi); obtain ⟨hcz16_0, hcz16_1, hcz16_2, hcz16_3, hcz16_4, hcz16_5⟩ := c6 BK318.out; obtain ⟨hfz16_0, hfz16_1, hfz16_2, hfz16_3, hfz16_4, hfz16_5⟩ := f6 BK318.out) | ((with_reducible refine gate_callee (f := 9) rfl ?_); refine goesL_ (some 18) rfl rfl Try.func9 (by kernel_rfl) rfl #[.agg #[.int .i64 a0_0, .int .i64 a0_1, .slice A0_2 l0_2.length c0_2, .slice A0_3 l0_3.length c0_3, .slice A0_4 l0_4.length c0_4, .slice A0_5 l0_5.length c0_5]] rfl (by (try simp only [List.map_toArray, List.map_cons, List.map_nil]); first | done | rfl | (simp only [List.length_drop, List.length_take]; rfl)) ?_; (with_reducible refine (laws_toChecker.calls k a0_0 a0_1 _ _ l0_2 _ _ l0_3 _ _ l0_4 _ _ l0_5 t320 t321 t322 t325 t328 t331 _ ?side1 ?side2 ?side3 ?side4 ?side5 ?side6 ?side7 ?side8 A8.out).mono ?_); (case side1 => repeat (first | exact (Kd.C_below HR0_2.out HB.out) | (with_reducible refine Kd.C_alloc ?_ _) | (with_reducible refine Kd.C_drewN ?_ _) | (with_reducible refine Kd.C_drew ?_))); (case side2 => exact HC0_2.out); (case side3 => repeat (first | exact (Kd.C_below HR0_3.out HB.out) | (with_reducible refine Kd.C_alloc ?_ _) | (with_reducible refine Kd.C_drewN ?_ _) | (with_reducible refine Kd.C_drew ?_))); (case side4 => exact HC0_3.out); (case side5 => repeat (first | exact (Kd.C_below HR0_4.out HB.out) | (with_reducible refine Kd.C_alloc ?_ _) | (with_reducible refine Kd.C_drewN ?_ _) | (with_reducible refine Kd.C_drew ?_))); (case side6 => exact HC0_4.out); (case side7 => repeat (first | exact (Kd.C_below HR0_5.out HB.out) | (with_reducible refine Kd.C_alloc ?_ _) | (with_reducible refine Kd.C_drewN ?_ _) | (with_reducible refine Kd.C_drew ?_))); (case side8 => exact HC0_5.out); rintro e w17 ⟨v323, v326, v329, v332, rfl, ho0, ho1, ho2, ho3, hb⟩; refine ⟨_, rfl, ?_⟩; have n0_ := AZ.mk (Kd.R_lower ho0 (pZ (by repeat (first | (with_reducible first | exact HB.out | apply pA | apply pN | apply pD | refine pS ?_ GE318.out) | exact HB.out)))); have n1_ := AZ.mk (Kd.S_lower ho1 (pZ (by repeat (first | (with_reducible first | exact HB.out | apply pA | apply pN | apply pD | refine pS ?_ GE318.out) | exact HB.out)))); have n2_ := AZ.mk (Kd.R_lower ho2 (pZ (by repeat (first | (with_reducible first | exact HB.out | apply pA | apply pN | apply pD | refine pS ?_ GE318.out) | exact HB.out)))); have n3_ := AZ.mk (Kd.S_lower ho3 (pZ (by repeat (first | (with_reducible first | exact HB.out | apply pA | apply pN | apply pD | refine pS ?_ GE318.out) | exact HB.out)))); have n4_ := AZ.mk (bb_ (g := gb318) (o := .cells #[.int .i64 a0_0, .int .i64 a0_1, .slice A0_2 l0_2.length c0_2, .slice A0_3 l0_3.length c0_3, .slice A0_4 l0_4.length c0_4, .slice A0_5 l0_5.length c0_5] 30 (0, 0)) (by (with_reducible repeat (first | refine bn_ ?_ _ | refine bd_ ?_ | refine ba_ ?_ _)); exact BK318.out) hb); have n5_ := AZ.mk (pT (by repeat (first | (with_reducible first | exact HB.out | apply pA | apply pN | apply pD | refine pS ?_ GE318.out) | exact HB.out)) hb); clear BK318; clear HB; have HO324 := n0_; have HO327 := n1_; have HO330 := n2_; have HO333 := n3_; have BK318 := n4_; have HB := n5_; clear n0_ n1_ n2_ n3_ n4_ n5_; (try clear hb); (try clear hb2); (try clear hk); (try clear hi); (try clear ho0); (try clear ho1); (try clear ho2); (try clear ho3); obtain ⟨Ao18, co18, eo18⟩ := Kd.R_slice HO324.out; subst eo18; obtain ⟨Ao19, co19, eo19⟩ := Kd.S_slice HO327.out; subst eo19; obtain ⟨Ao20, co20, eo20⟩ := Kd.R_slice HO330.out; subst eo20; obtain ⟨Ao21, co21, eo21⟩ := Kd.S_slice HO333.out; subst eo21) | ((with_reducible refine gate_callee (f := 8) rfl ?_); refine goesL_ (some 20) rfl rfl Try.func8 (by kernel_rfl) rfl #[.agg #[.int .i64 t320, .int .i64 t321, .slice Ao18 t322.length co18, .slice Ao19 t325.length co19, .slice Ao20 t328.length co20, .slice Ao21 t331.length co21], .int .i64 a1] rfl (by (try simp only [List.map_toArray, List.map_cons, List.map_nil]); first | done | rfl | (simp only [List.length_drop, List.length_take]; rfl)) ?_; (with_reducible refine (spec_CountTaken.calls k t320 t321 _ _ t322 _ _ t325 _ _ t328 _ _ t331 a1 t334 t335 _ ?side1 ?side2 ?side3 ?side4 ?side5 ?side6 ?side7 ?side8 A9.out).mono ?_); (case side1 => repeat (first | exact (Kd.R_reads' HO324.out).2.2 | (with_reducible refine Kd.C_alloc ?_ _) | (with_reducible refine Kd.C_drewN ?_ _) | (with_reducible refine Kd.C_drew ?_))); (case side2 => exact (Kd.R_reads' HO324.out).2.1); (case side3 => repeat (first | exact (Kd.S_reads' HO327.out).2.2 | (with_reducible refine Kd.C_alloc ?_ _) | (with_reducible refine Kd.C_drewN ?_ _) | (with_reducible refine Kd.C_drew ?_))); (case side4 => exact (Kd.S_reads' HO327.out).2.1); (case side5 => repeat (first | exact (Kd.R_reads' HO330.out).2.2 | (with_reducible refine Kd.C_alloc ?_ _) | (with_reducible refine Kd.C_drewN ?_ _) | (with_reducible refine Kd.C_drew ?_))); (case side6 => exact (Kd.R_reads' HO330.out).2.1); (case side7 => repeat (first | exact (Kd.S_reads' HO333.out).2.2 | (with_reducible refine Kd.C_alloc ?_ _) | (with_reducible refine Kd.C_drewN ?_ _) | (with_reducible refine Kd.C_drew ?_))); (case side8 => exact (Kd.S_reads' HO333.out).2.1); rintro e w22 ⟨rfl, hb⟩; refine ⟨_, rfl, ?_⟩; have n0_ := AZ.mk (Kd.R_below (by (with_reducible repeat (first | apply Kd.R_alloc | apply Kd.R_drewN | apply Kd.R_drew)); exact HO324.out) hb); have n1_ := AZ.mk (Kd.S_below (by (with_reducible repeat (first | apply Kd.S_alloc | apply Kd.S_drewN | apply Kd.S_drew)); exact HO327.out) hb); have n2_ := AZ.mk (Kd.R_below (by (with_reducible repeat (first | apply Kd.R_alloc | apply Kd.R_drewN | apply Kd.R_drew)); exact HO330.out) hb); have n3_ := AZ.mk (Kd.S_below (by (with_reducible repeat (first | apply Kd.S_alloc | apply Kd.S_drewN | apply Kd.S_drew)); exact HO333.out) hb); have n4_ := AZ.mk (bb_ (g := gb318) (o := .cells #[.int .i64 a0_0, .int .i64 a0_1, .slice A0_2 l0_2.length c0_2, .slice A0_3 l0_3.length c0_3, .slice A0_4 l0_4.length c0_4, .slice A0_5 l0_5.length c0_5] 30 (0, 0)) (by (with_reducible repeat (first | refine bn_ ?_ _ | refine bd_ ?_ | refine ba_ ?_ _)); exact BK318.out) hb); have n5_ := AZ.mk (pT (by repeat (first | (with_reducible first | exact HB.out | apply pA | apply pN | apply pD | refine pS ?_ GE318.out) | exact HB.out)) hb); clear HO324; clear HO327; clear HO330; clear HO333; clear BK318; clear HB; have HO324 := n0_; have HO327 := n1_; have HO330 := n2_; have HO333 := n3_; have BK318 := n4_; have HB := n5_; clear n0_ n1_ n2_ n3_ n4_ n5_; (try clear hb); (try clear hb2); (try clear hk); (try clear hi); obtain ⟨hcz23_0, hcz23_1, hcz23_2, hcz23_3, hcz23_4, hcz23_5⟩ := c6 BK318.out; obtain ⟨hfz23_0, hfz23_1, hfz23_2, hfz23_3, hfz23_4, hfz23_5⟩ := f6 BK318.out) | ((with_reducible refine gate_callee (f := 9) rfl ?_); refine goesL_ (some 24) rfl rfl Try.func9 (by kernel_rfl) rfl #[.agg #[.int .i64 a0_0, .int .i64 a0_1, .slice A0_2 l0_2.length c0_2, .slice A0_3 l0_3.length c0_3, .slice A0_4 l0_4.length c0_4, .slice A0_5 l0_5.length c0_5]] rfl (by (try simp only [List.map_toArray, List.map_cons, List.map_nil]); first | done | rfl | (simp only [List.length_drop, List.length_take]; rfl)) ?_; (with_reducible refine (laws_toChecker.calls k a0_0 a0_1 _ _ l0_2 _ _ l0_3 _ _ l0_4 _ _ l0_5 t336 t337 t338 t341 t344 t347 _ ?side1 ?side2 ?side3 ?side4 ?side5 ?side6 ?side7 ?side8 A10.out).mono ?_); (case side1 => repeat (first | exact (Kd.C_below HR0_2.out HB.out) | (with_reducible refine Kd.C_alloc ?_ _) | (with_reducible refine Kd.C_drewN ?_ _) | (with_reducible refine Kd.C_drew ?_))); (case side2 => exact HC0_2.out); (case side3 => repeat (first | exact (Kd.C_below HR0_3.out HB.out) | (with_reducible refine Kd.C_alloc ?_ _) | (with_reducible refine Kd.C_drewN ?_ _) | (with_reducible refine Kd.C_drew ?_))); (case side4 => exact HC0_3.out); (case side5 => repeat (first | exact (Kd.C_below HR0_4.out HB.out) | (with_reducible refine Kd.C_alloc ?_ _) | (with_reducible refine Kd.C_drewN ?_ _) | (with_reducible refine Kd.C_drew ?_))); (case side6 => exact HC0_4.out); (case side7 => repeat (first | exact (Kd.C_below HR0_5.out HB.out) | (with_reducible refine Kd.C_alloc ?_ _) | (with_reducible refine Kd.C_drewN ?_ _) | (with_reducible refine Kd.C_drew ?_))); (case side8 => exact HC0_5.out); rintro e w24 ⟨v339, v342, v345, v348, rfl, ho0, ho1, ho2, ho3, hb⟩; refine ⟨_, rfl, ?_⟩; have n0_ := AZ.mk (Kd.R_elder' (by (with_reducible repeat (first | apply Kd.R_alloc | apply Kd.R_drewN | apply Kd.R_drew)); exact HO324.out) (Kd.R_base ho0) hb); have n1_ := AZ.mk (Kd.S_elder' (by (with_reducible repeat (first | apply Kd.S_alloc | apply Kd.S_drewN | apply Kd.S_drew)); exact HO327.out) (Kd.S_base ho1) hb); have n2_ := AZ.mk (Kd.R_mono (Kd.R_told (Kd.R_told (Kd.R_old (by (with_reducible repeat (first | apply Kd.R_alloc | apply Kd.R_drewN | apply Kd.R_drew)); exact HO330.out) hb) (Kd.R_base ho2)) (Kd.S_base ho3)) (fun _ h_ => h_.1)); have n3_ := AZ.mk (Kd.S_elder' (by (with_reducible repeat (first | apply Kd.S_alloc | apply Kd.S_drewN | apply Kd.S_drew)); exact HO333.out) (Kd.S_base ho3) hb); have n4_ := AZ.mk (Kd.R_lower (Kd.R_new' ho0 (Kd.R_lt (by (with_reducible repeat (first | apply Kd.R_alloc | apply Kd.R_drewN | apply Kd.R_drew)); exact HO324.out))) (pZ (by repeat (first | (with_reducible first | exact HB.out | apply pA | apply pN | apply pD | refine pS ?_ GE318.out) | exact HB.out)))); have n5_ := AZ.mk (Kd.S_lower (Kd.S_new' ho1 (Kd.S_lt (by (with_reducible repeat (first | apply Kd.S_alloc | apply Kd.S_drewN | apply Kd.S_drew)); exact HO327.out))) (pZ (by repeat (first | (with_reducible first | exact HB.out | apply pA | apply pN | apply pD | refine pS ?_ GE318.out) | exact HB.out)))); have n6_ := AZ.mk (Kd.R_lower (Kd.R_new' (Kd.R_new' ho2 (Kd.R_lt (by (with_reducible repeat (first | apply Kd.R_alloc | apply Kd.R_drewN | apply Kd.R_drew)); exact HO330.out))) (Kd.S_lt (by (with_reducible repeat (first | apply Kd.S_alloc | apply Kd.S_drewN | apply Kd.S_drew)); exact HO333.out))) (pZ (by repeat (first | (with_reducible first | exact HB.out | apply pA | apply pN | apply pD | refine pS ?_ GE318.out) | exact HB.out)))); have n7_ := AZ.mk (Kd.S_lower (Kd.S_new' ho3 (Kd.S_lt (by (with_reducible repeat (first | apply Kd.S_alloc | apply Kd.S_drewN | apply Kd.S_drew)); exact HO333.out))) (pZ (by repeat (first | (with_reducible first | exact HB.out | apply pA | apply pN | apply pD | refine pS ?_ GE318.out) | exact HB.out)))); have n8_ := AZ.mk (bb_ (g := gb318) (o := .cells #[.int .i64 a0_0, .int .i64 a0_1, .slice A0_2 l0_2.length c0_2, .slice A0_3 l0_3.length c0_3, .slice A0_4 l0_4.length c0_4, .slice A0_5 l0_5.length c0_5] 30 (0, 0)) (by (with_reducible repeat (first | refine bn_ ?_ _ | refine bd_ ?_ | refine ba_ ?_ _)); exact BK318.out) hb); have n9_ := AZ.mk (pT (by repeat (first | (with_reducible first | exact HB.out | apply pA | apply pN | apply pD | refine pS ?_ GE318.out) | exact HB.out)) hb); clear HO324; clear HO327; clear HO330; clear HO333; clear BK318; clear HB; have HO324 := n0_; have HO327 := n1_; have HO330 := n2_; have HO333 := n3_; have HO340 := n4_; have HO343 := n5_; have HO346 := n6_; have HO349 := n7_; have BK318 := n8_; have HB := n9_; clear n0_ n1_ n2_ n3_ n4_ n5_ n6_ n7_ n8_ n9_; (try clear hb); (try clear hb2); (try clear hk); (try clear hi); (try clear ho0); (try clear ho1); (try clear ho2); (try clear ho3)) | ((with_reducible refine gate_dst (N := 8) rfl ?_); refine box_event ?hg (N := 8) ?hd (cs := #[.int .i64 0, .int .i64 0, .slice none 0 0, .slice none 0 0, .slice none 0 0, .slice none 0 0]) (t := 36) ?hr ?_; (case hd => rfl); (case hg => rfl); (case hr => first | (go_simp; done) | (go_simp; rfl)); intro gb350 hg w25 hbox hb; have n0_ := AZ.mk (Kd.R_below (by (with_reducible repeat (first | apply Kd.R_alloc | apply Kd.R_drewN | apply Kd.R_drew)); exact HO324.out) hb); have n1_ := AZ.mk (Kd.S_below (by (with_reducible repeat (first | apply Kd.S_alloc | apply Kd.S_drewN | apply Kd.S_drew)); exact HO327.out) hb); have n2_ := AZ.mk (Kd.R_below (by (with_reducible repeat (first | apply Kd.R_alloc | apply Kd.R_drewN | apply Kd.R_drew)); exact HO330.out) hb); have n3_ := AZ.mk (Kd.S_below (by (with_reducible repeat (first | apply Kd.S_alloc | apply Kd.S_drewN | apply Kd.S_drew)); exact HO333.out) hb); have n4_ := AZ.mk (Kd.R_below (by (with_reducible repeat (first | apply Kd.R_alloc | apply Kd.R_drewN | apply Kd.R_drew)); exact HO340.out) hb); have n5_ := AZ.mk (Kd.S_below (by (with_reducible repeat (first | apply Kd.S_alloc | apply Kd.S_drewN | apply Kd.S_drew)); exact HO343.out) hb); have n6_ := AZ.mk (Kd.R_below (by (with_reducible repeat (first | apply Kd.R_alloc | apply Kd.R_drewN | apply Kd.R_drew)); exact HO346.out) hb); have n7_ := AZ.mk (Kd.S_below (by (with_reducible repeat (first | apply Kd.S_alloc | apply Kd.S_drewN | apply Kd.S_drew)); exact HO349.out) hb); have n8_ := AZ.mk (bb_ (g := gb318) (o := .cells #[.int .i64 a0_0, .int .i64 a0_1, .slice A0_2 l0_2.length c0_2, .slice A0_3 l0_3.length c0_3, .slice A0_4 l0_4.length c0_4, .slice A0_5 l0_5.length c0_5] 30 (0, 0)) (by (with_reducible repeat (first | refine bn_ ?_ _ | refine bd_ ?_ | refine ba_ ?_ _)); exact BK318.out) hb); have n9_ := AZ.mk (pT (by repeat (first | (with_reducible first | exact HB.out | apply pA | apply pN | apply pD | refine pS ?_ GE318.out) | exact HB.out)) hb); have n10_ := AZ.mk (hbox); have n11_ := AZ.mk ((by rw [hg]; exact (pZ (by repeat (first | (with_reducible first | exact HB.out | apply pA | apply pN | apply pD | refine pS ?_ GE318.out) | exact HB.out))) : w.heap.size ≤ gb350)); have n12_ := AZ.mk ((by rw [hg]; exact (pZ (by repeat (first | (with_reducible first | exact HB.out | apply pA | apply pN | apply pD | refine pS ?_ GE318.out) | exact HB.out))) : w.heap.size ≤ gb350)); have n13_ := AZ.mk ((by rw [hg]; exact Nat.ne_of_lt (blk_lt (g := gb318) (o := .cells #[.int .i64 a0_0, .int .i64 a0_1, .slice A0_2 l0_2.length c0_2, .slice A0_3 l0_3.length c0_3, .slice A0_4 l0_4.length c0_4, .slice A0_5 l0_5.length c0_5] 30 (0, 0)) (by (with_reducible repeat (first | refine bn_ ?_ _ | refine bd_ ?_ | refine ba_ ?_ _)); exact BK318.out)) : gb318 ≠ gb350)); have n14_ := AZ.mk ((by rw [hg]; exact Nat.ne_of_gt (blk_lt (g := gb318) (o := .cells #[.int .i64 a0_0, .int .i64 a0_1, .slice A0_2 l0_2.length c0_2, .slice A0_3 l0_3.length c0_3, .slice A0_4 l0_4.length c0_4, .slice A0_5 l0_5.length c0_5] 30 (0, 0)) (by (with_reducible repeat (first | refine bn_ ?_ _ | refine bd_ ?_ | refine ba_ ?_ _)); exact BK318.out)) : gb350 ≠ gb318)); clear HO324; clear HO327; clear HO330; clear HO333; clear HO340; clear HO343; clear HO346; clear HO349; clear BK318; clear HB; have HO324 := n0_; have HO327 := n1_; have HO330 := n2_; have HO333 := n3_; have HO340 := n4_; have HO343 := n5_; have HO346 := n6_; have HO349 := n7_; have BK318 := n8_; have HB := n9_; have BK350 := n10_; have GW350 := n11_; have GE350 := n12_; have NB318_350 := n13_; have NB350_318 := n14_; clear n0_ n1_ n2_ n3_ n4_ n5_ n6_ n7_ n8_ n9_ n10_ n11_ n12_ n13_ n14_; clear hb hbox hg; have hnb26 := NB350_318.out; have hnc26 := NB318_350.out; obtain ⟨hcz27_0, hcz27_1, hcz27_2, hcz27_3, hcz27_4, hcz27_5⟩ := c6 BK350.out; obtain ⟨hfz27_0, hfz27_1, hfz27_2, hfz27_3, hfz27_4, hfz27_5⟩ := f6 BK350.out; obtain ⟨Ao28, co28, eo28⟩ := Kd.R_slice HO340.out; subst eo28; obtain ⟨Ao29, co29, eo29⟩ := Kd.S_slice HO343.out; subst eo29; obtain ⟨Ao30, co30, eo30⟩ := Kd.R_slice HO346.out; subst eo30; obtain ⟨Ao31, co31, eo31⟩ := Kd.S_slice HO349.out; subst eo31) | ((with_reducible refine gate_callee (f := 10) rfl ?_); refine goesL_ (some 28) rfl rfl Try.func10 (by kernel_rfl) rfl #[.agg #[.int .i64 t336, .int .i64 t337, .slice Ao28 t338.length co28, .slice Ao29 t341.length co29, .slice Ao30 t344.length co30, .slice Ao31 t347.length co31], .int .i64 a1] rfl (by (try simp only [List.map_toArray, List.map_cons, List.map_nil]); first | done | rfl | (simp only [List.length_drop, List.length_take]; rfl)) ?_; (with_reducible refine (impl_CountTaken.calls k t336 t337 _ _ t338 _ _ t341 _ _ t344 _ _ t347 a1 t351 t352 _ ?side1 ?side2 ?side3 ?side4 ?side5 ?side6 ?side7 ?side8 A11.out).mono ?_); (case side1 => refine (Kd.R_reads' (e := 4) (base := w.heap.size) (ok := fun k_ => (True ∧ some k_ ≠ (.slice Ao18 t322.length co18 : Value).ownBlock)) (n := t338.length) (c := co28) ?_).2.2; exact (by (with_reducible repeat (first | apply Kd.R_alloc | apply Kd.R_drewN | apply Kd.R_drew)); exact (Kd.R_mono (Kd.R_far (p := ⟨gb350, 5, none⟩) (Kd.R_far (p := ⟨gb350, 4, none⟩) (Kd.R_far (p := ⟨gb350, 3, none⟩) (Kd.R_far (p := ⟨gb350, 2, none⟩) (Kd.R_far (p := ⟨gb350, 1, none⟩) (Kd.R_far (p := ⟨gb350, 0, none⟩) (Kd.R_types HO340.out BK350.out (by decide)) (fun _ hk => hk.2) (.int .i64 t336)) (fun _ hk => hk.2) (.int .i64 t337)) (fun _ hk => hk.2) (.slice Ao28 t338.length co28)) (fun _ hk => hk.2) (.slice Ao29 t341.length co29)) (fun _ hk => hk.2) (.slice Ao30 t344.length co30)) (fun _ hk => hk.2) (.slice Ao31 t347.length co31)) (fun _ h_ => h_.1)))); (case side2 => exact (Kd.R_reads' HO340.out).2.1); (case side3 => refine (Kd.S_reads' (e := 89) (base := w.heap.size) (ok := fun k_ => (True ∧ some k_ ≠ (.slice Ao19 t325.length co19 : Value).ownBlock)) (n := t341.length) (c := co29) ?_).2.2; exact (by (with_reducible repeat (first | apply Kd.S_alloc | apply Kd.S_drewN | apply Kd.S_drew)); exact (Kd.S_mono (Kd.S_far (p := ⟨gb350, 5, none⟩) (Kd.S_far (p := ⟨gb350, 4, none⟩) (Kd.S_far (p := ⟨gb350, 3, none⟩) (Kd.S_far (p := ⟨gb350, 2, none⟩) (Kd.S_far (p := ⟨gb350, 1, none⟩) (Kd.S_far (p := ⟨gb350, 0, none⟩) (Kd.S_types HO343.out BK350.out (by decide)) (fun _ hk => hk.2) (.int .i64 t336)) (fun _ hk => hk.2) (.int .i64 t337)) (fun _ hk => hk.2) (.slice Ao28 t338.length co28)) (fun _ hk => hk.2) (.slice Ao29 t341.length co29)) (fun _ hk => hk.2) (.slice Ao30 t344.length co30)) (fun _ hk => hk.2) (.slice Ao31 t347.length co31)) (fun _ h_ => h_.1)))); (case side4 => exact (Kd.S_reads' HO343.out).2.1); (case side5 => refine (Kd.R_reads' (e := 28) (base := w.heap.size) (ok := fun k_ => ((some k_ ≠ (.slice Ao31 t347.length co31 : Value).ownBlock ∧ some k_ ≠ (.slice Ao20 t328.length co20 : Value).ownBlock) ∧ some k_ ≠ (.slice Ao21 t331.length co21 : Value).ownBlock)) (n := t344.length) (c := co30) ?_).2.2; exact (by (with_reducible repeat (first | apply Kd.R_alloc | apply Kd.R_drewN | apply Kd.R_drew)); exact (Kd.R_mono (Kd.R_far (p := ⟨gb350, 5, none⟩) (Kd.R_far (p := ⟨gb350, 4, none⟩) (Kd.R_far (p := ⟨gb350, 3, none⟩) (Kd.R_far (p := ⟨gb350, 2, none⟩) (Kd.R_far (p := ⟨gb350, 1, none⟩) (Kd.R_far (p := ⟨gb350, 0, none⟩) (Kd.R_types HO346.out BK350.out (by decide)) (fun _ hk => hk.2) (.int .i64 t336)) (fun _ hk => hk.2) (.int .i64 t337)) (fun _ hk => hk.2) (.slice Ao28 t338.length co28)) (fun _ hk => hk.2) (.slice Ao29 t341.length co29)) (fun _ hk => hk.2) (.slice Ao30 t344.length co30)) (fun _ hk => hk.2) (.slice Ao31 t347.length co31)) (fun _ h_ => h_.1)))); (case side6 => exact (Kd.R_reads' HO346.out).2.1); (case side7 => refine (Kd.S_reads' (e := 60) (base := w.heap.size) (ok := fun k_ => (True ∧ some k_ ≠ (.slice Ao21 t331.length co21 : Value).ownBlock)) (n := t347.length) (c := co31) ?_).2.2; exact (by (with_reducible repeat (first | apply Kd.S_alloc | apply Kd.S_drewN | apply Kd.S_drew)); exact (Kd.S_mono (Kd.S_far (p := ⟨gb350, 5, none⟩) (Kd.S_far (p := ⟨gb350, 4, none⟩) (Kd.S_far (p := ⟨gb350, 3, none⟩) (Kd.S_far (p := ⟨gb350, 2, none⟩) (Kd.S_far (p := ⟨gb350, 1, none⟩) (Kd.S_far (p := ⟨gb350, 0, none⟩) (Kd.S_types HO349.out BK350.out (by decide)) (fun _ hk => hk.2) (.int .i64 t336)) (fun _ hk => hk.2) (.int .i64 t337)) (fun _ hk => hk.2) (.slice Ao28 t338.length co28)) (fun _ hk => hk.2) (.slice Ao29 t341.length co29)) (fun _ hk => hk.2) (.slice Ao30 t344.length co30)) (fun _ hk => hk.2) (.slice Ao31 t347.length co31)) (fun _ h_ => h_.1)))); (case side8 => exact (Kd.S_reads' HO349.out).2.1); rintro e w32 ⟨rfl, hb⟩; refine ⟨_, rfl, ?_⟩; have n0_ := AZ.mk (Kd.R_below (by (with_reducible repeat (first | apply Kd.R_alloc | apply Kd.R_drewN | apply Kd.R_drew)); exact (Kd.R_mono (Kd.R_far (p := ⟨gb350, 5, none⟩) (Kd.R_far (p := ⟨gb350, 4, none⟩) (Kd.R_far (p := ⟨gb350, 3, none⟩) (Kd.R_far (p := ⟨gb350, 2, none⟩) (Kd.R_far (p := ⟨gb350, 1, none⟩) (Kd.R_far (p := ⟨gb350, 0, none⟩) (Kd.R_types HO324.out BK350.out (by decide)) (fun _ hk => hk.2) (.int .i64 t336)) (fun _ hk => hk.2) (.int .i64 t337)) (fun _ hk => hk.2) (.slice Ao28 t338.length co28)) (fun _ hk => hk.2) (.slice Ao29 t341.length co29)) (fun _ hk => hk.2) (.slice Ao30 t344.length co30)) (fun _ hk => hk.2) (.slice Ao31 t347.length co31)) (fun _ h_ => h_.1))) hb); have n1_ := AZ.mk (Kd.S_below (by (with_reducible repeat (first | apply Kd.S_alloc | apply Kd.S_drewN | apply Kd.S_drew)); exact (Kd.S_mono (Kd.S_far (p := ⟨gb350, 5, none⟩) (Kd.S_far (p := ⟨gb350, 4, none⟩) (Kd.S_far (p := ⟨gb350, 3, none⟩) (Kd.S_far (p := ⟨gb350, 2, none⟩) (Kd.S_far (p := ⟨gb350, 1, none⟩) (Kd.S_far (p := ⟨gb350, 0, none⟩) (Kd.S_types HO327.out BK350.out (by decide)) (fun _ hk => hk.2) (.int .i64 t336)) (fun _ hk => hk.2) (.int .i64 t337)) (fun _ hk => hk.2) (.slice Ao28 t338.length co28)) (fun _ hk => hk.2) (.slice Ao29 t341.length co29)) (fun _ hk => hk.2) (.slice Ao30 t344.length co30)) (fun _ hk => hk.2) (.slice Ao31 t347.length co31)) (fun _ h_ => h_.1))) hb); have n2_ := AZ.mk (Kd.R_below (by (with_reducible repeat (first | apply Kd.R_alloc | apply Kd.R_drewN | apply Kd.R_drew)); exact (Kd.R_mono (Kd.R_far (p := ⟨gb350, 5, none⟩) (Kd.R_far (p := ⟨gb350, 4, none⟩) (Kd.R_far (p := ⟨gb350, 3, none⟩) (Kd.R_far (p := ⟨gb350, 2, none⟩) (Kd.R_far (p := ⟨gb350, 1, none⟩) (Kd.R_far (p := ⟨gb350, 0, none⟩) (Kd.R_types HO330.out BK350.out (by decide)) (fun _ hk => hk.2) (.int .i64 t336)) (fun _ hk => hk.2) (.int .i64 t337)) (fun _ hk => hk.2) (.slice Ao28 t338.length co28)) (fun _ hk => hk.2) (.slice Ao29 t341.length co29)) (fun _ hk => hk.2) (.slice Ao30 t344.length co30)) (fun _ hk => hk.2) (.slice Ao31 t347.length co31)) (fun _ h_ => h_.1))) hb); have n3_ := AZ.mk (Kd.S_below (by (with_reducible repeat (first | apply Kd.S_alloc | apply Kd.S_drewN | apply Kd.S_drew)); exact (Kd.S_mono (Kd.S_far (p := ⟨gb350, 5, none⟩) (Kd.S_far (p := ⟨gb350, 4, none⟩) (Kd.S_far (p := ⟨gb350, 3, none⟩) (Kd.S_far (p := ⟨gb350, 2, none⟩) (Kd.S_far (p := ⟨gb350, 1, none⟩) (Kd.S_far (p := ⟨gb350, 0, none⟩) (Kd.S_types HO333.out BK350.out (by decide)) (fun _ hk => hk.2) (.int .i64 t336)) (fun _ hk => hk.2) (.int .i64 t337)) (fun _ hk => hk.2) (.slice Ao28 t338.length co28)) (fun _ hk => hk.2) (.slice Ao29 t341.length co29)) (fun _ hk => hk.2) (.slice Ao30 t344.length co30)) (fun _ hk => hk.2) (.slice Ao31 t347.length co31)) (fun _ h_ => h_.1))) hb); have n4_ := AZ.mk (Kd.R_below (by (with_reducible repeat (first | apply Kd.R_alloc | apply Kd.R_drewN | apply Kd.R_drew)); exact (Kd.R_mono (Kd.R_far (p := ⟨gb350, 5, none⟩) (Kd.R_far (p := ⟨gb350, 4, none⟩) (Kd.R_far (p := ⟨gb350, 3, none⟩) (Kd.R_far (p := ⟨gb350, 2, none⟩) (Kd.R_far (p := ⟨gb350, 1, none⟩) (Kd.R_far (p := ⟨gb350, 0, none⟩) (Kd.R_types HO340.out BK350.out (by decide)) (fun _ hk => hk.2) (.int .i64 t336)) (fun _ hk => hk.2) (.int .i64 t337)) (fun _ hk => hk.2) (.slice Ao28 t338.length co28)) (fun _ hk => hk.2) (.slice Ao29 t341.length co29)) (fun _ hk => hk.2) (.slice Ao30 t344.length co30)) (fun _ hk => hk.2) (.slice Ao31 t347.length co31)) (fun _ h_ => h_.1))) hb); have n5_ := AZ.mk (Kd.S_below (by (with_reducible repeat (first | apply Kd.S_alloc | apply Kd.S_drewN | apply Kd.S_drew)); exact (Kd.S_mono (Kd.S_far (p := ⟨gb350, 5, none⟩) (Kd.S_far (p := ⟨gb350, 4, none⟩) (Kd.S_far (p := ⟨gb350, 3, none⟩) (Kd.S_far (p := ⟨gb350, 2, none⟩) (Kd.S_far (p := ⟨gb350, 1, none⟩) (Kd.S_far (p := ⟨gb350, 0, none⟩) (Kd.S_types HO343.out BK350.out (by decide)) (fun _ hk => hk.2) (.int .i64 t336)) (fun _ hk => hk.2) (.int .i64 t337)) (fun _ hk => hk.2) (.slice Ao28 t338.length co28)) (fun _ hk => hk.2) (.slice Ao29 t341.length co29)) (fun _ hk => hk.2) (.slice Ao30 t344.length co30)) (fun _ hk => hk.2) (.slice Ao31 t347.length co31)) (fun _ h_ => h_.1))) hb); have n6_ := AZ.mk (Kd.R_below (by (with_reducible repeat (first | apply Kd.R_alloc | apply Kd.R_drewN | apply Kd.R_drew)); exact (Kd.R_mono (Kd.R_far (p := ⟨gb350, 5, none⟩) (Kd.R_far (p := ⟨gb350, 4, none⟩) (Kd.R_far (p := ⟨gb350, 3, none⟩) (Kd.R_far (p := ⟨gb350, 2, none⟩) (Kd.R_far (p := ⟨gb350, 1, none⟩) (Kd.R_far (p := ⟨gb350, 0, none⟩) (Kd.R_types HO346.out BK350.out (by decide)) (fun _ hk => hk.2) (.int .i64 t336)) (fun _ hk => hk.2) (.int .i64 t337)) (fun _ hk => hk.2) (.slice Ao28 t338.length co28)) (fun _ hk => hk.2) (.slice Ao29 t341.length co29)) (fun _ hk => hk.2) (.slice Ao30 t344.length co30)) (fun _ hk => hk.2) (.slice Ao31 t347.length co31)) (fun _ h_ => h_.1))) hb); have n7_ := AZ.mk (Kd.S_below (by (with_reducible repeat (first | apply Kd.S_alloc | apply Kd.S_drewN | apply Kd.S_drew)); exact (Kd.S_mono (Kd.S_far (p := ⟨gb350, 5, none⟩) (Kd.S_far (p := ⟨gb350, 4, none⟩) (Kd.S_far (p := ⟨gb350, 3, none⟩) (Kd.S_far (p := ⟨gb350, 2, none⟩) (Kd.S_far (p := ⟨gb350, 1, none⟩) (Kd.S_far (p := ⟨gb350, 0, none⟩) (Kd.S_types HO349.out BK350.out (by decide)) (fun _ hk => hk.2) (.int .i64 t336)) (fun _ hk => hk.2) (.int .i64 t337)) (fun _ hk => hk.2) (.slice Ao28 t338.length co28)) (fun _ hk => hk.2) (.slice Ao29 t341.length co29)) (fun _ hk => hk.2) (.slice Ao30 t344.length co30)) (fun _ hk => hk.2) (.slice Ao31 t347.length co31)) (fun _ h_ => h_.1))) hb); have n8_ := AZ.mk (bb_ (g := gb318) (o := .cells #[.int .i64 a0_0, .int .i64 a0_1, .slice A0_2 l0_2.length c0_2, .slice A0_3 l0_3.length c0_3, .slice A0_4 l0_4.length c0_4, .slice A0_5 l0_5.length c0_5] 30 (0, 0)) (by (with_reducible repeat (first | refine bn_ ?_ _ | refine bd_ ?_ | refine ba_ ?_ _)); refine blk_far ?_ NB318_350.out _; (with_reducible repeat (first | refine bn_ ?_ _ | refine bd_ ?_ | refine ba_ ?_ _)); refine blk_far ?_ NB318_350.out _; (with_reducible repeat (first | refine bn_ ?_ _ | refine bd_ ?_ | refine ba_ ?_ _)); refine blk_far ?_ NB318_350.out _; (with_reducible repeat (first | refine bn_ ?_ _ | refine bd_ ?_ | refine ba_ ?_ _)); refine blk_far ?_ NB318_350.out _; (with_reducible repeat (first | refine bn_ ?_ _ | refine bd_ ?_ | refine ba_ ?_ _)); refine blk_far ?_ NB318_350.out _; (with_reducible repeat (first | refine bn_ ?_ _ | refine bd_ ?_ | refine ba_ ?_ _)); refine blk_far ?_ NB318_350.out _; (with_reducible repeat (first | refine bn_ ?_ _ | refine bd_ ?_ | refine ba_ ?_ _)); exact BK318.out) hb); have n9_ := AZ.mk (bb_ (g := gb350) (o := .cells #[.int .i64 t336, .int .i64 t337, .slice Ao28 t338.length co28, .slice Ao29 t341.length co29, .slice Ao30 t344.length co30, .slice Ao31 t347.length co31] 36 (0, 0)) (by (with_reducible repeat (first | refine bn_ ?_ _ | refine bd_ ?_ | refine ba_ ?_ _)); refine blk_put (cs := #[.int .i64 t336, .int .i64 t337, .slice Ao28 t338.length co28, .slice Ao29 t341.length co29, .slice Ao30 t344.length co30, .slice none 0 0]) ?_ 5 _ rfl; (with_reducible repeat (first | refine bn_ ?_ _ | refine bd_ ?_ | refine ba_ ?_ _)); refine blk_put (cs := #[.int .i64 t336, .int .i64 t337, .slice Ao28 t338.length co28, .slice Ao29 t341.length co29, .slice none 0 0, .slice none 0 0]) ?_ 4 _ rfl; (with_reducible repeat (first | refine bn_ ?_ _ | refine bd_ ?_ | refine ba_ ?_ _)); refine blk_put (cs := #[.int .i64 t336, .int .i64 t337, .slice Ao28 t338.length co28, .slice none 0 0, .slice none 0 0, .slice none 0 0]) ?_ 3 _ rfl; (with_reducible repeat (first | refine bn_ ?_ _ | refine bd_ ?_ | refine ba_ ?_ _)); refine blk_put (cs := #[.int .i64 t336, .int .i64 t337, .slice none 0 0, .slice none 0 0, .slice none 0 0, .slice none 0 0]) ?_ 2 _ rfl; (with_reducible repeat (first | refine bn_ ?_ _ | refine bd_ ?_ | refine ba_ ?_ _)); refine blk_put (cs := #[.int .i64 t336, .int .i64 0, .slice none 0 0, .slice none 0 0, .slice none 0 0, .slice none 0 0]) ?_ 1 _ rfl; (with_reducible repeat (first | refine bn_ ?_ _ | refine bd_ ?_ | refine ba_ ?_ _)); refine blk_put (cs := #[.int .i64 0, .int .i64 0, .slice none 0 0, .slice none 0 0, .slice none 0 0, .slice none 0 0]) ?_ 0 _ rfl; (with_reducible repeat (first | refine bn_ ?_ _ | refine bd_ ?_ | refine ba_ ?_ _)); exact BK350.out) hb); have n10_ := AZ.mk (pT (by repeat (first | (with_reducible first | exact HB.out | apply pA | apply pN | apply pD | refine pS ?_ GE318.out | refine pS ?_ GE350.out) | exact HB.out)) hb); clear HO324; clear HO327; clear HO330; clear HO333; clear HO340; clear HO343; clear HO346; clear HO349; clear BK318; clear BK350; clear HB; have HO324 := n0_; have HO327 := n1_; have HO330 := n2_; have HO333 := n3_; have HO340 := n4_; have HO343 := n5_; have HO346 := n6_; have HO349 := n7_; have BK318 := n8_; have BK350 := n9_; have HB := n10_; clear n0_ n1_ n2_ n3_ n4_ n5_ n6_ n7_ n8_ n9_ n10_; (try clear hb); (try clear hb2); (try clear hk); (try clear hi)))
 (try simp only [Act.put, sA, sB, sC])
 go_cut [38] (fun v38 wc => ∃ (kq : Nat) (x38_11 : Bool), v38 = .bool x38_11 ∧ AZ (laws_FnExactCountTaken.j0 kq x38_11 a0_0 a0_1 l0_2 l0_3 l0_4 l0_5 t336 t337 t338 t341 t344 t347 = some r) ∧ AZ (kq ≤ k) ∧ AZ (Kd.R Kd.bool 4 wc w.heap.size (fun _ => True) (.slice Ao28 t338.length co28) t338) ∧ AZ (Kd.S (Kd.slice 92 k92) 89 wc w.heap.size (fun _ => True) (.slice Ao29 t341.length co29) t341) ∧ AZ (Kd.R (Kd.slice 60 (Kd.slice 2 (Kd.int .i64))) 28 wc w.heap.size (fun k_ => some k_ ≠ ((.slice Ao31 t347.length co31) : Value).ownBlock) (.slice Ao30 t344.length co30) t344) ∧ AZ (Kd.S (Kd.slice 2 (Kd.int .i64)) 60 wc w.heap.size (fun _ => True) (.slice Ao31 t347.length co31) t347) ∧ AZ (wc.heap[gb318]? = some (.cells #[.int .i64 a0_0, .int .i64 a0_1, (.slice A0_2 l0_2.length c0_2), (.slice A0_3 l0_3.length c0_3), (.slice A0_4 l0_4.length c0_4), (.slice A0_5 l0_5.length c0_5)] 30 (0, 0))) ∧ AZ (wc.heap[gb350]? = some (.cells #[.int .i64 t336, .int .i64 t337, (.slice Ao28 t338.length co28), (.slice Ao29 t341.length co29), (.slice Ao30 t344.length co30), (.slice Ao31 t347.length co31)] 36 (0, 0))) ∧ AZ (Below w.heap.size w wc))
 case first =>
  have H := HC12.out
  clear HC12
  by_cases c33 : t351 = t334
  rotate_left
  ·rw [if_neg c33] at H
   have c33b0 : (t351 == t334) = false := beq_eq_false_iff_ne.mpr c33
   have c33b1 : (t351 != t334) = true := bne_iff_ne.mpr c33
   (first | rw [c33b0] | rw [c33b1] | (simp only [i64_w, i32_w]; rw [c33b0]) | skip)
   have H' := AZ.mk H
   clear H
   go_wp2
   go_meet
   case rel => exact ⟨_, (true), (by first | rfl | (simp; done) | (simp [*]; done)), H', ⟨by first | omega | exact Nat.le_refl _⟩, ⟨by (with_reducible repeat (first | apply Kd.R_alloc | apply Kd.R_drewN | apply Kd.R_drew)); exact Kd.R_mono HO340.out (fun _ hk => trivial)⟩, ⟨by (with_reducible repeat (first | apply Kd.S_alloc | apply Kd.S_drewN | apply Kd.S_drew)); exact Kd.S_mono HO343.out (fun _ hk => trivial)⟩, ⟨by (with_reducible repeat (first | apply Kd.R_alloc | apply Kd.R_drewN | apply Kd.R_drew)); exact Kd.R_mono HO346.out (fun _ hk => hk.1.1)⟩, ⟨by (with_reducible repeat (first | apply Kd.S_alloc | apply Kd.S_drewN | apply Kd.S_drew)); exact Kd.S_mono HO349.out (fun _ hk => trivial)⟩, ⟨by (with_reducible repeat (first | refine bn_ ?_ _ | refine bd_ ?_ | refine ba_ ?_ _)); exact BK318.out⟩, ⟨by (with_reducible repeat (first | refine bn_ ?_ _ | refine bd_ ?_ | refine ba_ ?_ _)); exact BK350.out⟩, ⟨by repeat (first | (with_reducible first | exact HB.out | apply pA | apply pN | apply pD | refine pS ?_ GE318.out | refine pS ?_ GE350.out) | exact HB.out)⟩⟩
  rw [if_pos c33] at H
  have c33b0 : (t351 == t334) = true := beq_iff_eq.mpr c33
  have c33b1 : (t351 != t334) = false := bne_eq_false_iff_eq.mpr c33
  clear c33
  (first | rw [c33b0] | rw [c33b1] | (simp only [i64_w, i32_w]; rw [c33b0]) | skip)
  have H' := AZ.mk H
  clear H
  go_wp2
  go_meet
  case rel => exact ⟨_, ((t352 != t335)), (by first | rfl | (simp; done) | (simp [*]; done)), H', ⟨by first | omega | exact Nat.le_refl _⟩, ⟨by (with_reducible repeat (first | apply Kd.R_alloc | apply Kd.R_drewN | apply Kd.R_drew)); exact Kd.R_mono HO340.out (fun _ hk => trivial)⟩, ⟨by (with_reducible repeat (first | apply Kd.S_alloc | apply Kd.S_drewN | apply Kd.S_drew)); exact Kd.S_mono HO343.out (fun _ hk => trivial)⟩, ⟨by (with_reducible repeat (first | apply Kd.R_alloc | apply Kd.R_drewN | apply Kd.R_drew)); exact Kd.R_mono HO346.out (fun _ hk => hk.1.1)⟩, ⟨by (with_reducible repeat (first | apply Kd.S_alloc | apply Kd.S_drewN | apply Kd.S_drew)); exact Kd.S_mono HO349.out (fun _ hk => trivial)⟩, ⟨by (with_reducible repeat (first | refine bn_ ?_ _ | refine bd_ ?_ | refine ba_ ?_ _)); exact BK318.out⟩, ⟨by (with_reducible repeat (first | refine bn_ ?_ _ | refine bd_ ?_ | refine ba_ ?_ _)); exact BK350.out⟩, ⟨by repeat (first | (with_reducible first | exact HB.out | apply pA | apply pN | apply pD | refine pS ?_ GE318.out | refine pS ?_ GE350.out) | exact HB.out)⟩⟩
 case rest =>
  clear HC12
  try clear c1
  try clear c2
  try clear p2
  try clear c3
  try clear c4
  try clear c4b0
  try clear c7
  try clear c8
  try clear c9
  try clear c10
  try clear c26
  try clear c33
  try clear c33b0
  try clear c33b1
  try clear hcz14_0
  try clear hcz14_1
  try clear hcz14_2
  try clear hcz14_3
  try clear hcz14_4
  try clear hcz14_5
  try clear hcz16_0
  try clear hcz16_1
  try clear hcz16_2
  try clear hcz16_3
  try clear hcz16_4
  try clear hcz16_5
  try clear hcz23_0
  try clear hcz23_1
  try clear hcz23_2
  try clear hcz23_3
  try clear hcz23_4
  try clear hcz23_5
  try clear hcz27_0
  try clear hcz27_1
  try clear hcz27_2
  try clear hcz27_3
  try clear hcz27_4
  try clear hcz27_5
  try clear hcz6_0
  try clear hcz6_1
  try clear hcz6_2
  try clear hcz6_3
  try clear hcz6_4
  try clear hcz6_5
  try clear hfz14_0
  try clear hfz14_1
  try clear hfz14_2
  try clear hfz14_3
  try clear hfz14_4
  try clear hfz14_5
  try clear hfz16_0
  try clear hfz16_1
  try clear hfz16_2
  try clear hfz16_3
  try clear hfz16_4
  try clear hfz16_5
  try clear hfz23_0
  try clear hfz23_1
  try clear hfz23_2
  try clear hfz23_3
  try clear hfz23_4
  try clear hfz23_5
  try clear hfz27_0
  try clear hfz27_1
  try clear hfz27_2
  try clear hfz27_3
  try clear hfz27_4
  try clear hfz27_5
  try clear hfz6_0
  try clear hfz6_1
  try clear hfz6_2
  try clear hfz6_3
  try clear hfz6_4
  try clear hfz6_5
  obtain ⟨kq, x38_11, rfl, HA, HJ11, HO_351002, HO_351003, HO_351004, HO_351005, BK318, BK350, HB⟩ := hcut
  cases kq with
  | zero => exact absurd HA.out (by simp [laws_FnExactCountTaken.j0])
  | succ kj11 =>
   have H := HA.out
   clear HA
   simp only [laws_FnExactCountTaken.j0] at H
   by_cases c34 : x38_11 = true
   ·subst c34
    have H1 : (some false) = some r := by rw [if_pos rfl] at H; exact H
    clear H
    have H := H1
    clear H1
    obtain rfl := Option.some.inj H
    go_wp2
    go_ret
    exact ⟨by first | rfl | (simp [errW_none, errW_some] <;> rfl) | (simp [*, errW_none, errW_some] <;> rfl), by repeat (first | (with_reducible first | exact HB.out | apply pA | apply pN | apply pD | refine pS ?_ GE318.out | refine pS ?_ GE350.out) | exact HB.out)⟩
   replace c34 := Bool.eq_false_iff.mpr c34
   subst c34
   have H1 : ((laws_toChecker.f kj11 a0_0 a0_1 l0_2 l0_3 l0_4 l0_5).bind fun bt353 => ((laws_eqChecker.f kj11 t336 t337 t338 t341 t344 t347 bt353.1 bt353.2.1 bt353.2.2.1 bt353.2.2.2.1 bt353.2.2.2.2.1 bt353.2.2.2.2.2).bind fun t367 => (if t367 = true then (some true) else (some false)))) = some r := by rw [if_neg (show ¬ (false = true) by decide)] at H; exact H
   clear H
   have H := H1
   clear H1
   replace H := Option.bind_eq_some_iff.mp H
   obtain ⟨⟨t353, t354, t355, t358, t361, t364⟩, A350, H⟩ := H
   replace H : ((laws_eqChecker.f kj11 t336 t337 t338 t341 t344 t347 t353 t354 t355 t358 t361 t364).bind fun t367 => (if t367 = true then (some true) else (some false))) = some r := H
   have A35 := AZ.mk A350
   clear A350
   replace H := Option.bind_eq_some_iff.mp H
   obtain ⟨t367, A360, H⟩ := H
   replace H : (if t367 = true then (some true) else (some false)) = some r := H
   have A36 := AZ.mk A360
   clear A360
   by_cases c37 : t367 = true
   ·subst c37
    have H1 : (some true) = some r := by rw [if_pos rfl] at H; exact H
    clear H
    have H := H1
    clear H1
    obtain rfl := Option.some.inj H
    try go_wp2
    have n0_ := AZ.mk (Kd.R_drew HO_351002.out)
    have n1_ := AZ.mk (Kd.S_drew HO_351003.out)
    have n2_ := AZ.mk (Kd.R_drew HO_351004.out)
    have n3_ := AZ.mk (Kd.S_drew HO_351005.out)
    have n4_ := AZ.mk (bd_ BK318.out)
    have n5_ := AZ.mk (bd_ BK350.out)
    have n6_ := AZ.mk (pD HB.out)
    clear HO_351002
    clear HO_351003
    clear HO_351004
    clear HO_351005
    clear BK318
    clear BK350
    clear HB
    have HO_351002 := n0_
    have HO_351003 := n1_
    have HO_351004 := n2_
    have HO_351005 := n3_
    have BK318 := n4_
    have BK350 := n5_
    have HB := n6_
    clear n0_ n1_ n2_ n3_ n4_ n5_ n6_
    refine start_ (n := 5) (S := fun w' => w'.cell? ⟨gb350, 0, none⟩ = some (.int .i64 t336) ∧ w'.cell? ⟨gb350, 1, none⟩ = some (.int .i64 t337) ∧ w'.cell? ⟨gb350, 2, none⟩ = some (.slice Ao28 t338.length co28) ∧ w'.cell? ⟨gb350, 3, none⟩ = some (.slice Ao29 t341.length co29) ∧ w'.cell? ⟨gb350, 4, none⟩ = some (.slice Ao30 t344.length co30) ∧ w'.cell? ⟨gb350, 5, none⟩ = some (.slice Ao31 t347.length co31) ∧ w'.cell? ⟨gb318, 0, none⟩ = some (.int .i64 a0_0) ∧ w'.cell? ⟨gb318, 1, none⟩ = some (.int .i64 a0_1) ∧ w'.cell? ⟨gb318, 2, none⟩ = some (.slice A0_2 l0_2.length c0_2) ∧ w'.cell? ⟨gb318, 3, none⟩ = some (.slice A0_3 l0_3.length c0_3) ∧ w'.cell? ⟨gb318, 4, none⟩ = some (.slice A0_4 l0_4.length c0_4) ∧ w'.cell? ⟨gb318, 5, none⟩ = some (.slice A0_5 l0_5.length c0_5)) (ds := []) #[false, false, false, false, false] (by kernel_rfl) rfl rfl ⟨(bc BK350.out 0).trans rfl, (bc BK350.out 1).trans rfl, (bc BK350.out 2).trans rfl, (bc BK350.out 3).trans rfl, (bc BK350.out 4).trans rfl, (bc BK350.out 5).trans rfl, (bc BK318.out 0).trans rfl, (bc BK318.out 1).trans rfl, (bc BK318.out 2).trans rfl, (bc BK318.out 3).trans rfl, (bc BK318.out 4).trans rfl, (bc BK318.out 5).trans rfl⟩ (fun hHeld => ?_)
    generalize wc.drew = w38 at HO_351002 HO_351003 HO_351004 HO_351005 BK318 BK350 HB hHeld ⊢
    refine take_ (i := 0) (N := some 39) (v := ?_) (a' := ?_) #[true, false, false, false, false] rfl rfl (by kernel_rfl) (fun _ _ _ h => h) (Or.inl ⟨by rfl, ?_⟩) hHeld ?_ ?_
    rotate_left
    ·rintro w' ⟨s0, s1, s2, s3, s4, s5, s6, s7, s8, s9, s10, s11⟩
     go_simp
     with_reducible rfl
    rotate_left
    ·simp only [Act.put, sA, sB, sC, i64_w, i32_w]
     rfl
    refine take_ (i := 1) (N := some 40) (v := ?_) (a' := ?_) #[true, true, false, false, false] rfl rfl (by kernel_rfl) (fun _ _ _ h => h) (Or.inl ⟨by rfl, ?_⟩) hHeld ?_ ?_
    rotate_left
    ·rintro w' ⟨s0, s1, s2, s3, s4, s5, s6, s7, s8, s9, s10, s11⟩
     go_simp
     with_reducible rfl
    rotate_left
    ·simp only [Act.put, sA, sB, sC, i64_w, i32_w]
     rfl
    refine one_ (i := 2) (N := some 41) #[true, true, true, false, false] rfl rfl (by kernel_rfl) (by decide) (fun K hK => ?_)
    refine goes_ Try.func9 (by kernel_rfl) rfl #[.agg #[.int .i64 a0_0, .int .i64 a0_1, .slice A0_2 l0_2.length c0_2, .slice A0_3 l0_3.length c0_3, .slice A0_4 l0_4.length c0_4, .slice A0_5 l0_5.length c0_5]] (by rfl) rfl rfl (by (try simp only [List.map_toArray, List.map_cons, List.map_nil]); first | done | rfl | (simp only [List.length_drop, List.length_take]; rfl)) ?_
    with_reducible refine (laws_toChecker.calls kj11 a0_0 a0_1 _ _ l0_2 _ _ l0_3 _ _ l0_4 _ _ l0_5 t353 t354 t355 t358 t361 t364 _ ?side1 ?side2 ?side3 ?side4 ?side5 ?side6 ?side7 ?side8 A35.out).mono ?_
    (case side1 => repeat (first | exact (Kd.C_below HR0_2.out HB.out) | (with_reducible refine Kd.C_alloc ?_ _) | (with_reducible refine Kd.C_drewN ?_ _) | (with_reducible refine Kd.C_drew ?_)))
    (case side2 => exact HC0_2.out)
    (case side3 => repeat (first | exact (Kd.C_below HR0_3.out HB.out) | (with_reducible refine Kd.C_alloc ?_ _) | (with_reducible refine Kd.C_drewN ?_ _) | (with_reducible refine Kd.C_drew ?_)))
    (case side4 => exact HC0_3.out)
    (case side5 => repeat (first | exact (Kd.C_below HR0_4.out HB.out) | (with_reducible refine Kd.C_alloc ?_ _) | (with_reducible refine Kd.C_drewN ?_ _) | (with_reducible refine Kd.C_drew ?_)))
    (case side6 => exact HC0_4.out)
    (case side7 => repeat (first | exact (Kd.C_below HR0_5.out HB.out) | (with_reducible refine Kd.C_alloc ?_ _) | (with_reducible refine Kd.C_drewN ?_ _) | (with_reducible refine Kd.C_drew ?_)))
    (case side8 => exact HC0_5.out)
    rintro e w39 ⟨v356, v359, v362, v365, rfl, ho0, ho1, ho2, ho3, hb⟩
    refine ⟨_, rfl, ?_⟩
    have n0_ := AZ.mk (Kd.R_elder' (by (with_reducible repeat (first | apply Kd.R_alloc | apply Kd.R_drewN | apply Kd.R_drew)); exact HO_351002.out) (Kd.R_base ho0) hb)
    have n1_ := AZ.mk (Kd.S_elder' (by (with_reducible repeat (first | apply Kd.S_alloc | apply Kd.S_drewN | apply Kd.S_drew)); exact HO_351003.out) (Kd.S_base ho1) hb)
    have n2_ := AZ.mk (Kd.R_mono (Kd.R_told (Kd.R_told (Kd.R_old (by (with_reducible repeat (first | apply Kd.R_alloc | apply Kd.R_drewN | apply Kd.R_drew)); exact HO_351004.out) hb) (Kd.R_base ho2)) (Kd.S_base ho3)) (fun _ h_ => h_.1))
    have n3_ := AZ.mk (Kd.S_elder' (by (with_reducible repeat (first | apply Kd.S_alloc | apply Kd.S_drewN | apply Kd.S_drew)); exact HO_351005.out) (Kd.S_base ho3) hb)
    have n4_ := AZ.mk (Kd.R_lower (Kd.R_new' ho0 (Kd.R_lt (by (with_reducible repeat (first | apply Kd.R_alloc | apply Kd.R_drewN | apply Kd.R_drew)); exact HO_351002.out))) (pZ (by repeat (first | (with_reducible first | exact HB.out | apply pA | apply pN | apply pD | refine pS ?_ GE318.out | refine pS ?_ GE350.out) | exact HB.out))))
    have n5_ := AZ.mk (Kd.S_lower (Kd.S_new' ho1 (Kd.S_lt (by (with_reducible repeat (first | apply Kd.S_alloc | apply Kd.S_drewN | apply Kd.S_drew)); exact HO_351003.out))) (pZ (by repeat (first | (with_reducible first | exact HB.out | apply pA | apply pN | apply pD | refine pS ?_ GE318.out | refine pS ?_ GE350.out) | exact HB.out))))
    have n6_ := AZ.mk (Kd.R_lower (Kd.R_new' (Kd.R_new' ho2 (Kd.R_lt (by (with_reducible repeat (first | apply Kd.R_alloc | apply Kd.R_drewN | apply Kd.R_drew)); exact HO_351004.out))) (Kd.S_lt (by (with_reducible repeat (first | apply Kd.S_alloc | apply Kd.S_drewN | apply Kd.S_drew)); exact HO_351005.out))) (pZ (by repeat (first | (with_reducible first | exact HB.out | apply pA | apply pN | apply pD | refine pS ?_ GE318.out | refine pS ?_ GE350.out) | exact HB.out))))
    have n7_ := AZ.mk (Kd.S_lower (Kd.S_new' ho3 (Kd.S_lt (by (with_reducible repeat (first | apply Kd.S_alloc | apply Kd.S_drewN | apply Kd.S_drew)); exact HO_351005.out))) (pZ (by repeat (first | (with_reducible first | exact HB.out | apply pA | apply pN | apply pD | refine pS ?_ GE318.out | refine pS ?_ GE350.out) | exact HB.out))))
    have n8_ := AZ.mk (bb_ (g := gb318) (o := .cells #[.int .i64 a0_0, .int .i64 a0_1, .slice A0_2 l0_2.length c0_2, .slice A0_3 l0_3.length c0_3, .slice A0_4 l0_4.length c0_4, .slice A0_5 l0_5.length c0_5] 30 (0, 0)) (by (with_reducible repeat (first | refine bn_ ?_ _ | refine bd_ ?_ | refine ba_ ?_ _)); exact BK318.out) hb)
    have n9_ := AZ.mk (bb_ (g := gb350) (o := .cells #[.int .i64 t336, .int .i64 t337, .slice Ao28 t338.length co28, .slice Ao29 t341.length co29, .slice Ao30 t344.length co30, .slice Ao31 t347.length co31] 36 (0, 0)) (by (with_reducible repeat (first | refine bn_ ?_ _ | refine bd_ ?_ | refine ba_ ?_ _)); exact BK350.out) hb)
    have n10_ := AZ.mk (pT (by repeat (first | (with_reducible first | exact HB.out | apply pA | apply pN | apply pD | refine pS ?_ GE318.out | refine pS ?_ GE350.out) | exact HB.out)) hb)
    clear HO_351002
    clear HO_351003
    clear HO_351004
    clear HO_351005
    clear BK318
    clear BK350
    clear HB
    have HO_351002 := n0_
    have HO_351003 := n1_
    have HO_351004 := n2_
    have HO_351005 := n3_
    have HO357 := n4_
    have HO360 := n5_
    have HO363 := n6_
    have HO366 := n7_
    have BK318 := n8_
    have BK350 := n9_
    have HB := n10_
    clear n0_ n1_ n2_ n3_ n4_ n5_ n6_ n7_ n8_ n9_ n10_
    (try clear hb)
    (try clear hb2)
    (try clear hk)
    (try clear hi)
    (try clear ho0)
    (try clear ho1)
    (try clear ho2)
    (try clear ho3)
    obtain ⟨Ao40, co40, eo40⟩ := Kd.R_slice HO357.out
    (first | subst eo40 | (injection eo40 with f1_ f2_ f3_; have f4_ := f1_.symm; have f5_ := f3_.symm; clear f1_ f2_ f3_; subst f4_; subst f5_))
    obtain ⟨Ao41, co41, eo41⟩ := Kd.S_slice HO360.out
    (first | subst eo41 | (injection eo41 with f1_ f2_ f3_; have f4_ := f1_.symm; have f5_ := f3_.symm; clear f1_ f2_ f3_; subst f4_; subst f5_))
    obtain ⟨Ao42, co42, eo42⟩ := Kd.R_slice HO363.out
    (first | subst eo42 | (injection eo42 with f1_ f2_ f3_; have f4_ := f1_.symm; have f5_ := f3_.symm; clear f1_ f2_ f3_; subst f4_; subst f5_))
    obtain ⟨Ao43, co43, eo43⟩ := Kd.S_slice HO366.out
    (first | subst eo43 | (injection eo43 with f1_ f2_ f3_; have f4_ := f1_.symm; have f5_ := f3_.symm; clear f1_ f2_ f3_; subst f4_; subst f5_))
    refine hK.out _ _ ⟨(bc BK350.out 0).trans rfl, (bc BK350.out 1).trans rfl, (bc BK350.out 2).trans rfl, (bc BK350.out 3).trans rfl, (bc BK350.out 4).trans rfl, (bc BK350.out 5).trans rfl, (bc BK318.out 0).trans rfl, (bc BK318.out 1).trans rfl, (bc BK318.out 2).trans rfl, (bc BK318.out 3).trans rfl, (bc BK318.out 4).trans rfl, (bc BK318.out 5).trans rfl⟩ (fun hHeld => ?_)
    clear hK K
    refine norm_ (a' := ?_) ?_ ?_
    rotate_left
    ·show Act.put _ (some 41) _ = _
     simp only [Act.put, sA, sB, sC, i64_w, i32_w]
     rfl
    refine one_ (i := 3) (N := some 42) #[true, true, true, true, false] rfl rfl (by kernel_rfl) (by decide) (fun K hK => ?_)
    refine goes_ Try.func11 (by kernel_rfl) rfl #[.agg #[.int .i64 t336, .int .i64 t337, .slice Ao28 t338.length co28, .slice Ao29 t341.length co29, .slice Ao30 t344.length co30, .slice Ao31 t347.length co31], .agg #[.int .i64 t353, .int .i64 t354, .slice Ao40 t355.length co40, .slice Ao41 t358.length co41, .slice Ao42 t361.length co42, .slice Ao43 t364.length co43]] (by rfl) rfl rfl (by (try simp only [List.map_toArray, List.map_cons, List.map_nil]); first | done | rfl | (simp only [List.length_drop, List.length_take]; rfl)) ?_
    with_reducible refine (laws_eqChecker.calls kj11 t336 t337 _ _ t338 _ _ t341 _ _ t344 _ _ t347 t353 t354 _ _ t355 _ _ t358 _ _ t361 _ _ t364 true _ ?side1 ?side2 ?side3 ?side4 ?side5 ?side6 ?side7 ?side8 ?side9 ?side10 ?side11 ?side12 ?side13 ?side14 ?side15 ?side16 A36.out).mono ?_
    (case side1 => repeat (first | exact (Kd.R_reads' HO_351002.out).2.2 | (with_reducible refine Kd.C_alloc ?_ _) | (with_reducible refine Kd.C_drewN ?_ _) | (with_reducible refine Kd.C_drew ?_)))
    (case side2 => exact (Kd.R_reads' HO_351002.out).2.1)
    (case side3 => repeat (first | exact (Kd.S_reads' HO_351003.out).2.2 | (with_reducible refine Kd.C_alloc ?_ _) | (with_reducible refine Kd.C_drewN ?_ _) | (with_reducible refine Kd.C_drew ?_)))
    (case side4 => exact (Kd.S_reads' HO_351003.out).2.1)
    (case side5 => repeat (first | exact (Kd.R_reads' HO_351004.out).2.2 | (with_reducible refine Kd.C_alloc ?_ _) | (with_reducible refine Kd.C_drewN ?_ _) | (with_reducible refine Kd.C_drew ?_)))
    (case side6 => exact (Kd.R_reads' HO_351004.out).2.1)
    (case side7 => repeat (first | exact (Kd.S_reads' HO_351005.out).2.2 | (with_reducible refine Kd.C_alloc ?_ _) | (with_reducible refine Kd.C_drewN ?_ _) | (with_reducible refine Kd.C_drew ?_)))
    (case side8 => exact (Kd.S_reads' HO_351005.out).2.1)
    (case side9 => repeat (first | exact (Kd.R_reads' HO357.out).2.2 | (with_reducible refine Kd.C_alloc ?_ _) | (with_reducible refine Kd.C_drewN ?_ _) | (with_reducible refine Kd.C_drew ?_)))
    (case side10 => exact (Kd.R_reads' HO357.out).2.1)
    (case side11 => repeat (first | exact (Kd.S_reads' HO360.out).2.2 | (with_reducible refine Kd.C_alloc ?_ _) | (with_reducible refine Kd.C_drewN ?_ _) | (with_reducible refine Kd.C_drew ?_)))
    (case side12 => exact (Kd.S_reads' HO360.out).2.1)
    (case side13 => repeat (first | exact (Kd.R_reads' HO363.out).2.2 | (with_reducible refine Kd.C_alloc ?_ _) | (with_reducible refine Kd.C_drewN ?_ _) | (with_reducible refine Kd.C_drew ?_)))
    (case side14 => exact (Kd.R_reads' HO363.out).2.1)
    (case side15 => repeat (first | exact (Kd.S_reads' HO366.out).2.2 | (with_reducible refine Kd.C_alloc ?_ _) | (with_reducible refine Kd.C_drewN ?_ _) | (with_reducible refine Kd.C_drew ?_)))
    (case side16 => exact (Kd.S_reads' HO366.out).2.1)
    rintro e w44 ⟨rfl, hb⟩
    refine ⟨_, rfl, ?_⟩
    have n0_ := AZ.mk (Kd.R_below (by (with_reducible repeat (first | apply Kd.R_alloc | apply Kd.R_drewN | apply Kd.R_drew)); exact HO_351002.out) hb)
    have n1_ := AZ.mk (Kd.S_below (by (with_reducible repeat (first | apply Kd.S_alloc | apply Kd.S_drewN | apply Kd.S_drew)); exact HO_351003.out) hb)
    have n2_ := AZ.mk (Kd.R_below (by (with_reducible repeat (first | apply Kd.R_alloc | apply Kd.R_drewN | apply Kd.R_drew)); exact HO_351004.out) hb)
    have n3_ := AZ.mk (Kd.S_below (by (with_reducible repeat (first | apply Kd.S_alloc | apply Kd.S_drewN | apply Kd.S_drew)); exact HO_351005.out) hb)
    have n4_ := AZ.mk (Kd.R_below (by (with_reducible repeat (first | apply Kd.R_alloc | apply Kd.R_drewN | apply Kd.R_drew)); exact HO357.out) hb)
    have n5_ := AZ.mk (Kd.S_below (by (with_reducible repeat (first | apply Kd.S_alloc | apply Kd.S_drewN | apply Kd.S_drew)); exact HO360.out) hb)
    have n6_ := AZ.mk (Kd.R_below (by (with_reducible repeat (first | apply Kd.R_alloc | apply Kd.R_drewN | apply Kd.R_drew)); exact HO363.out) hb)
    have n7_ := AZ.mk (Kd.S_below (by (with_reducible repeat (first | apply Kd.S_alloc | apply Kd.S_drewN | apply Kd.S_drew)); exact HO366.out) hb)
    have n8_ := AZ.mk (bb_ (g := gb318) (o := .cells #[.int .i64 a0_0, .int .i64 a0_1, .slice A0_2 l0_2.length c0_2, .slice A0_3 l0_3.length c0_3, .slice A0_4 l0_4.length c0_4, .slice A0_5 l0_5.length c0_5] 30 (0, 0)) (by (with_reducible repeat (first | refine bn_ ?_ _ | refine bd_ ?_ | refine ba_ ?_ _)); exact BK318.out) hb)
    have n9_ := AZ.mk (bb_ (g := gb350) (o := .cells #[.int .i64 t336, .int .i64 t337, .slice Ao28 t338.length co28, .slice Ao29 t341.length co29, .slice Ao30 t344.length co30, .slice Ao31 t347.length co31] 36 (0, 0)) (by (with_reducible repeat (first | refine bn_ ?_ _ | refine bd_ ?_ | refine ba_ ?_ _)); exact BK350.out) hb)
    have n10_ := AZ.mk (pT (by repeat (first | (with_reducible first | exact HB.out | apply pA | apply pN | apply pD | refine pS ?_ GE318.out | refine pS ?_ GE350.out) | exact HB.out)) hb)
    clear HO_351002
    clear HO_351003
    clear HO_351004
    clear HO_351005
    clear HO357
    clear HO360
    clear HO363
    clear HO366
    clear BK318
    clear BK350
    clear HB
    have HO_351002 := n0_
    have HO_351003 := n1_
    have HO_351004 := n2_
    have HO_351005 := n3_
    have HO357 := n4_
    have HO360 := n5_
    have HO363 := n6_
    have HO366 := n7_
    have BK318 := n8_
    have BK350 := n9_
    have HB := n10_
    clear n0_ n1_ n2_ n3_ n4_ n5_ n6_ n7_ n8_ n9_ n10_
    (try clear hb)
    (try clear hb2)
    (try clear hk)
    (try clear hi)
    refine hK.out _ _ ⟨(bc BK350.out 0).trans rfl, (bc BK350.out 1).trans rfl, (bc BK350.out 2).trans rfl, (bc BK350.out 3).trans rfl, (bc BK350.out 4).trans rfl, (bc BK350.out 5).trans rfl, (bc BK318.out 0).trans rfl, (bc BK318.out 1).trans rfl, (bc BK318.out 2).trans rfl, (bc BK318.out 3).trans rfl, (bc BK318.out 4).trans rfl, (bc BK318.out 5).trans rfl⟩ (fun hHeld => ?_)
    clear hK K
    refine norm_ (a' := ?_) ?_ ?_
    rotate_left
    ·show Act.put _ (some 42) _ = _
     simp only [Act.put, sA, sB, sC, i64_w, i32_w]
     rfl
    refine pure_ (i := 4) (N := some 43) (v := ?_) (a' := ?_) #[true, true, true, true, true] rfl rfl (by kernel_rfl) (fun _ _ _ h => h) (Or.inl ⟨by rfl, ?_⟩) ?_ ?_
    rotate_left
    ·intro w'
     go_simp
     with_reducible rfl
    rotate_left
    ·simp only [Act.put, sA, sB, sC, i64_w, i32_w]
     rfl
    refine done_ (by kernel_rfl) ?_
    try go_wp2
    go_ret
    exact ⟨by first | rfl | (simp [errW_none, errW_some] <;> rfl) | (simp [*, errW_none, errW_some] <;> rfl), by repeat (first | (with_reducible first | exact HB.out | apply pA | apply pN | apply pD | refine pS ?_ GE318.out | refine pS ?_ GE350.out) | exact HB.out)⟩
   replace c37 := Bool.eq_false_iff.mpr c37
   subst c37
   have H1 : (some false) = some r := by rw [if_neg (show ¬ (false = true) by decide)] at H; exact H
   clear H
   have H := H1
   clear H1
   obtain rfl := Option.some.inj H
   try go_wp2
   have n0_ := AZ.mk (Kd.R_drew HO_351002.out)
   have n1_ := AZ.mk (Kd.S_drew HO_351003.out)
   have n2_ := AZ.mk (Kd.R_drew HO_351004.out)
   have n3_ := AZ.mk (Kd.S_drew HO_351005.out)
   have n4_ := AZ.mk (bd_ BK318.out)
   have n5_ := AZ.mk (bd_ BK350.out)
   have n6_ := AZ.mk (pD HB.out)
   clear HO_351002
   clear HO_351003
   clear HO_351004
   clear HO_351005
   clear BK318
   clear BK350
   clear HB
   have HO_351002 := n0_
   have HO_351003 := n1_
   have HO_351004 := n2_
   have HO_351005 := n3_
   have BK318 := n4_
   have BK350 := n5_
   have HB := n6_
   clear n0_ n1_ n2_ n3_ n4_ n5_ n6_
   refine start_ (n := 5) (S := fun w' => w'.cell? ⟨gb350, 0, none⟩ = some (.int .i64 t336) ∧ w'.cell? ⟨gb350, 1, none⟩ = some (.int .i64 t337) ∧ w'.cell? ⟨gb350, 2, none⟩ = some (.slice Ao28 t338.length co28) ∧ w'.cell? ⟨gb350, 3, none⟩ = some (.slice Ao29 t341.length co29) ∧ w'.cell? ⟨gb350, 4, none⟩ = some (.slice Ao30 t344.length co30) ∧ w'.cell? ⟨gb350, 5, none⟩ = some (.slice Ao31 t347.length co31) ∧ w'.cell? ⟨gb318, 0, none⟩ = some (.int .i64 a0_0) ∧ w'.cell? ⟨gb318, 1, none⟩ = some (.int .i64 a0_1) ∧ w'.cell? ⟨gb318, 2, none⟩ = some (.slice A0_2 l0_2.length c0_2) ∧ w'.cell? ⟨gb318, 3, none⟩ = some (.slice A0_3 l0_3.length c0_3) ∧ w'.cell? ⟨gb318, 4, none⟩ = some (.slice A0_4 l0_4.length c0_4) ∧ w'.cell? ⟨gb318, 5, none⟩ = some (.slice A0_5 l0_5.length c0_5)) (ds := []) #[false, false, false, false, false] (by kernel_rfl) rfl rfl ⟨(bc BK350.out 0).trans rfl, (bc BK350.out 1).trans rfl, (bc BK350.out 2).trans rfl, (bc BK350.out 3).trans rfl, (bc BK350.out 4).trans rfl, (bc BK350.out 5).trans rfl, (bc BK318.out 0).trans rfl, (bc BK318.out 1).trans rfl, (bc BK318.out 2).trans rfl, (bc BK318.out 3).trans rfl, (bc BK318.out 4).trans rfl, (bc BK318.out 5).trans rfl⟩ (fun hHeld => ?_)
   generalize wc.drew = w45 at HO_351002 HO_351003 HO_351004 HO_351005 BK318 BK350 HB hHeld ⊢
   refine take_ (i := 0) (N := some 39) (v := ?_) (a' := ?_) #[true, false, false, false, false] rfl rfl (by kernel_rfl) (fun _ _ _ h => h) (Or.inl ⟨by rfl, ?_⟩) hHeld ?_ ?_
   rotate_left
   ·rintro w' ⟨s0, s1, s2, s3, s4, s5, s6, s7, s8, s9, s10, s11⟩
    go_simp
    with_reducible rfl
   rotate_left
   ·simp only [Act.put, sA, sB, sC, i64_w, i32_w]
    rfl
   refine take_ (i := 1) (N := some 40) (v := ?_) (a' := ?_) #[true, true, false, false, false] rfl rfl (by kernel_rfl) (fun _ _ _ h => h) (Or.inl ⟨by rfl, ?_⟩) hHeld ?_ ?_
   rotate_left
   ·rintro w' ⟨s0, s1, s2, s3, s4, s5, s6, s7, s8, s9, s10, s11⟩
    go_simp
    with_reducible rfl
   rotate_left
   ·simp only [Act.put, sA, sB, sC, i64_w, i32_w]
    rfl
   refine one_ (i := 2) (N := some 41) #[true, true, true, false, false] rfl rfl (by kernel_rfl) (by decide) (fun K hK => ?_)
   refine goes_ Try.func9 (by kernel_rfl) rfl #[.agg #[.int .i64 a0_0, .int .i64 a0_1, .slice A0_2 l0_2.length c0_2, .slice A0_3 l0_3.length c0_3, .slice A0_4 l0_4.length c0_4, .slice A0_5 l0_5.length c0_5]] (by rfl) rfl rfl (by (try simp only [List.map_toArray, List.map_cons, List.map_nil]); first | done | rfl | (simp only [List.length_drop, List.length_take]; rfl)) ?_
   with_reducible refine (laws_toChecker.calls kj11 a0_0 a0_1 _ _ l0_2 _ _ l0_3 _ _ l0_4 _ _ l0_5 t353 t354 t355 t358 t361 t364 _ ?side1 ?side2 ?side3 ?side4 ?side5 ?side6 ?side7 ?side8 A35.out).mono ?_
   (case side1 => repeat (first | exact (Kd.C_below HR0_2.out HB.out) | (with_reducible refine Kd.C_alloc ?_ _) | (with_reducible refine Kd.C_drewN ?_ _) | (with_reducible refine Kd.C_drew ?_)))
   (case side2 => exact HC0_2.out)
   (case side3 => repeat (first | exact (Kd.C_below HR0_3.out HB.out) | (with_reducible refine Kd.C_alloc ?_ _) | (with_reducible refine Kd.C_drewN ?_ _) | (with_reducible refine Kd.C_drew ?_)))
   (case side4 => exact HC0_3.out)
   (case side5 => repeat (first | exact (Kd.C_below HR0_4.out HB.out) | (with_reducible refine Kd.C_alloc ?_ _) | (with_reducible refine Kd.C_drewN ?_ _) | (with_reducible refine Kd.C_drew ?_)))
   (case side6 => exact HC0_4.out)
   (case side7 => repeat (first | exact (Kd.C_below HR0_5.out HB.out) | (with_reducible refine Kd.C_alloc ?_ _) | (with_reducible refine Kd.C_drewN ?_ _) | (with_reducible refine Kd.C_drew ?_)))
   (case side8 => exact HC0_5.out)
   rintro e w46 ⟨v356, v359, v362, v365, rfl, ho0, ho1, ho2, ho3, hb⟩
   refine ⟨_, rfl, ?_⟩
   have n0_ := AZ.mk (Kd.R_elder' (by (with_reducible repeat (first | apply Kd.R_alloc | apply Kd.R_drewN | apply Kd.R_drew)); exact HO_351002.out) (Kd.R_base ho0) hb)
   have n1_ := AZ.mk (Kd.S_elder' (by (with_reducible repeat (first | apply Kd.S_alloc | apply Kd.S_drewN | apply Kd.S_drew)); exact HO_351003.out) (Kd.S_base ho1) hb)
   have n2_ := AZ.mk (Kd.R_mono (Kd.R_told (Kd.R_told (Kd.R_old (by (with_reducible repeat (first | apply Kd.R_alloc | apply Kd.R_drewN | apply Kd.R_drew)); exact HO_351004.out) hb) (Kd.R_base ho2)) (Kd.S_base ho3)) (fun _ h_ => h_.1))
   have n3_ := AZ.mk (Kd.S_elder' (by (with_reducible repeat (first | apply Kd.S_alloc | apply Kd.S_drewN | apply Kd.S_drew)); exact HO_351005.out) (Kd.S_base ho3) hb)
   have n4_ := AZ.mk (Kd.R_lower (Kd.R_new' ho0 (Kd.R_lt (by (with_reducible repeat (first | apply Kd.R_alloc | apply Kd.R_drewN | apply Kd.R_drew)); exact HO_351002.out))) (pZ (by repeat (first | (with_reducible first | exact HB.out | apply pA | apply pN | apply pD | refine pS ?_ GE318.out | refine pS ?_ GE350.out) | exact HB.out))))
   have n5_ := AZ.mk (Kd.S_lower (Kd.S_new' ho1 (Kd.S_lt (by (with_reducible repeat (first | apply Kd.S_alloc | apply Kd.S_drewN | apply Kd.S_drew)); exact HO_351003.out))) (pZ (by repeat (first | (with_reducible first | exact HB.out | apply pA | apply pN | apply pD | refine pS ?_ GE318.out | refine pS ?_ GE350.out) | exact HB.out))))
   have n6_ := AZ.mk (Kd.R_lower (Kd.R_new' (Kd.R_new' ho2 (Kd.R_lt (by (with_reducible repeat (first | apply Kd.R_alloc | apply Kd.R_drewN | apply Kd.R_drew)); exact HO_351004.out))) (Kd.S_lt (by (with_reducible repeat (first | apply Kd.S_alloc | apply Kd.S_drewN | apply Kd.S_drew)); exact HO_351005.out))) (pZ (by repeat (first | (with_reducible first | exact HB.out | apply pA | apply pN | apply pD | refine pS ?_ GE318.out | refine pS ?_ GE350.out) | exact HB.out))))
   have n7_ := AZ.mk (Kd.S_lower (Kd.S_new' ho3 (Kd.S_lt (by (with_reducible repeat (first | apply Kd.S_alloc | apply Kd.S_drewN | apply Kd.S_drew)); exact HO_351005.out))) (pZ (by repeat (first | (with_reducible first | exact HB.out | apply pA | apply pN | apply pD | refine pS ?_ GE318.out | refine pS ?_ GE350.out) | exact HB.out))))
   have n8_ := AZ.mk (bb_ (g := gb318) (o := .cells #[.int .i64 a0_0, .int .i64 a0_1, .slice A0_2 l0_2.length c0_2, .slice A0_3 l0_3.length c0_3, .slice A0_4 l0_4.length c0_4, .slice A0_5 l0_5.length c0_5] 30 (0, 0)) (by (with_reducible repeat (first | refine bn_ ?_ _ | refine bd_ ?_ | refine ba_ ?_ _)); exact BK318.out) hb)
   have n9_ := AZ.mk (bb_ (g := gb350) (o := .cells #[.int .i64 t336, .int .i64 t337, .slice Ao28 t338.length co28, .slice Ao29 t341.length co29, .slice Ao30 t344.length co30, .slice Ao31 t347.length co31] 36 (0, 0)) (by (with_reducible repeat (first | refine bn_ ?_ _ | refine bd_ ?_ | refine ba_ ?_ _)); exact BK350.out) hb)
   have n10_ := AZ.mk (pT (by repeat (first | (with_reducible first | exact HB.out | apply pA | apply pN | apply pD | refine pS ?_ GE318.out | refine pS ?_ GE350.out) | exact HB.out)) hb)
   clear HO_351002
   clear HO_351003
   clear HO_351004
   clear HO_351005
   clear BK318
   clear BK350
   clear HB
   have HO_351002 := n0_
   have HO_351003 := n1_
   have HO_351004 := n2_
   have HO_351005 := n3_
   have HO357 := n4_
   have HO360 := n5_
   have HO363 := n6_
   have HO366 := n7_
   have BK318 := n8_
   have BK350 := n9_
   have HB := n10_
   clear n0_ n1_ n2_ n3_ n4_ n5_ n6_ n7_ n8_ n9_ n10_
   (try clear hb)
   (try clear hb2)
   (try clear hk)
   (try clear hi)
   (try clear ho0)
   (try clear ho1)
   (try clear ho2)
   (try clear ho3)
   obtain ⟨Ao47, co47, eo47⟩ := Kd.R_slice HO357.out
   (first | subst eo47 | (injection eo47 with f1_ f2_ f3_; have f4_ := f1_.symm; have f5_ := f3_.symm; clear f1_ f2_ f3_; subst f4_; subst f5_))
   obtain ⟨Ao48, co48, eo48⟩ := Kd.S_slice HO360.out
   (first | subst eo48 | (injection eo48 with f1_ f2_ f3_; have f4_ := f1_.symm; have f5_ := f3_.symm; clear f1_ f2_ f3_; subst f4_; subst f5_))
   obtain ⟨Ao49, co49, eo49⟩ := Kd.R_slice HO363.out
   (first | subst eo49 | (injection eo49 with f1_ f2_ f3_; have f4_ := f1_.symm; have f5_ := f3_.symm; clear f1_ f2_ f3_; subst f4_; subst f5_))
   obtain ⟨Ao50, co50, eo50⟩ := Kd.S_slice HO366.out
   (first | subst eo50 | (injection eo50 with f1_ f2_ f3_; have f4_ := f1_.symm; have f5_ := f3_.symm; clear f1_ f2_ f3_; subst f4_; subst f5_))
   refine hK.out _ _ ⟨(bc BK350.out 0).trans rfl, (bc BK350.out 1).trans rfl, (bc BK350.out 2).trans rfl, (bc BK350.out 3).trans rfl, (bc BK350.out 4).trans rfl, (bc BK350.out 5).trans rfl, (bc BK318.out 0).trans rfl, (bc BK318.out 1).trans rfl, (bc BK318.out 2).trans rfl, (bc BK318.out 3).trans rfl, (bc BK318.out 4).trans rfl, (bc BK318.out 5).trans rfl⟩ (fun hHeld => ?_)
   clear hK K
   refine norm_ (a' := ?_) ?_ ?_
   rotate_left
   ·show Act.put _ (some 41) _ = _
    simp only [Act.put, sA, sB, sC, i64_w, i32_w]
    rfl
   refine one_ (i := 3) (N := some 42) #[true, true, true, true, false] rfl rfl (by kernel_rfl) (by decide) (fun K hK => ?_)
   refine goes_ Try.func11 (by kernel_rfl) rfl #[.agg #[.int .i64 t336, .int .i64 t337, .slice Ao28 t338.length co28, .slice Ao29 t341.length co29, .slice Ao30 t344.length co30, .slice Ao31 t347.length co31], .agg #[.int .i64 t353, .int .i64 t354, .slice Ao47 t355.length co47, .slice Ao48 t358.length co48, .slice Ao49 t361.length co49, .slice Ao50 t364.length co50]] (by rfl) rfl rfl (by (try simp only [List.map_toArray, List.map_cons, List.map_nil]); first | done | rfl | (simp only [List.length_drop, List.length_take]; rfl)) ?_
   with_reducible refine (laws_eqChecker.calls kj11 t336 t337 _ _ t338 _ _ t341 _ _ t344 _ _ t347 t353 t354 _ _ t355 _ _ t358 _ _ t361 _ _ t364 false _ ?side1 ?side2 ?side3 ?side4 ?side5 ?side6 ?side7 ?side8 ?side9 ?side10 ?side11 ?side12 ?side13 ?side14 ?side15 ?side16 A36.out).mono ?_
   (case side1 => repeat (first | exact (Kd.R_reads' HO_351002.out).2.2 | (with_reducible refine Kd.C_alloc ?_ _) | (with_reducible refine Kd.C_drewN ?_ _) | (with_reducible refine Kd.C_drew ?_)))
   (case side2 => exact (Kd.R_reads' HO_351002.out).2.1)
   (case side3 => repeat (first | exact (Kd.S_reads' HO_351003.out).2.2 | (with_reducible refine Kd.C_alloc ?_ _) | (with_reducible refine Kd.C_drewN ?_ _) | (with_reducible refine Kd.C_drew ?_)))
   (case side4 => exact (Kd.S_reads' HO_351003.out).2.1)
   (case side5 => repeat (first | exact (Kd.R_reads' HO_351004.out).2.2 | (with_reducible refine Kd.C_alloc ?_ _) | (with_reducible refine Kd.C_drewN ?_ _) | (with_reducible refine Kd.C_drew ?_)))
   (case side6 => exact (Kd.R_reads' HO_351004.out).2.1)
   (case side7 => repeat (first | exact (Kd.S_reads' HO_351005.out).2.2 | (with_reducible refine Kd.C_alloc ?_ _) | (with_reducible refine Kd.C_drewN ?_ _) | (with_reducible refine Kd.C_drew ?_)))
   (case side8 => exact (Kd.S_reads' HO_351005.out).2.1)
   (case side9 => repeat (first | exact (Kd.R_reads' HO357.out).2.2 | (with_reducible refine Kd.C_alloc ?_ _) | (with_reducible refine Kd.C_drewN ?_ _) | (with_reducible refine Kd.C_drew ?_)))
   (case side10 => exact (Kd.R_reads' HO357.out).2.1)
   (case side11 => repeat (first | exact (Kd.S_reads' HO360.out).2.2 | (with_reducible refine Kd.C_alloc ?_ _) | (with_reducible refine Kd.C_drewN ?_ _) | (with_reducible refine Kd.C_drew ?_)))
   (case side12 => exact (Kd.S_reads' HO360.out).2.1)
   (case side13 => repeat (first | exact (Kd.R_reads' HO363.out).2.2 | (with_reducible refine Kd.C_alloc ?_ _) | (with_reducible refine Kd.C_drewN ?_ _) | (with_reducible refine Kd.C_drew ?_)))
   (case side14 => exact (Kd.R_reads' HO363.out).2.1)
   (case side15 => repeat (first | exact (Kd.S_reads' HO366.out).2.2 | (with_reducible refine Kd.C_alloc ?_ _) | (with_reducible refine Kd.C_drewN ?_ _) | (with_reducible refine Kd.C_drew ?_)))
   (case side16 => exact (Kd.S_reads' HO366.out).2.1)
   rintro e w51 ⟨rfl, hb⟩
   refine ⟨_, rfl, ?_⟩
   have n0_ := AZ.mk (Kd.R_below (by (with_reducible repeat (first | apply Kd.R_alloc | apply Kd.R_drewN | apply Kd.R_drew)); exact HO_351002.out) hb)
   have n1_ := AZ.mk (Kd.S_below (by (with_reducible repeat (first | apply Kd.S_alloc | apply Kd.S_drewN | apply Kd.S_drew)); exact HO_351003.out) hb)
   have n2_ := AZ.mk (Kd.R_below (by (with_reducible repeat (first | apply Kd.R_alloc | apply Kd.R_drewN | apply Kd.R_drew)); exact HO_351004.out) hb)
   have n3_ := AZ.mk (Kd.S_below (by (with_reducible repeat (first | apply Kd.S_alloc | apply Kd.S_drewN | apply Kd.S_drew)); exact HO_351005.out) hb)
   have n4_ := AZ.mk (Kd.R_below (by (with_reducible repeat (first | apply Kd.R_alloc | apply Kd.R_drewN | apply Kd.R_drew)); exact HO357.out) hb)
   have n5_ := AZ.mk (Kd.S_below (by (with_reducible repeat (first | apply Kd.S_alloc | apply Kd.S_drewN | apply Kd.S_drew)); exact HO360.out) hb)
   have n6_ := AZ.mk (Kd.R_below (by (with_reducible repeat (first | apply Kd.R_alloc | apply Kd.R_drewN | apply Kd.R_drew)); exact HO363.out) hb)
   have n7_ := AZ.mk (Kd.S_below (by (with_reducible repeat (first | apply Kd.S_alloc | apply Kd.S_drewN | apply Kd.S_drew)); exact HO366.out) hb)
   have n8_ := AZ.mk (bb_ (g := gb318) (o := .cells #[.int .i64 a0_0, .int .i64 a0_1, .slice A0_2 l0_2.length c0_2, .slice A0_3 l0_3.length c0_3, .slice A0_4 l0_4.length c0_4, .slice A0_5 l0_5.length c0_5] 30 (0, 0)) (by (with_reducible repeat (first | refine bn_ ?_ _ | refine bd_ ?_ | refine ba_ ?_ _)); exact BK318.out) hb)
   have n9_ := AZ.mk (bb_ (g := gb350) (o := .cells #[.int .i64 t336, .int .i64 t337, .slice Ao28 t338.length co28, .slice Ao29 t341.length co29, .slice Ao30 t344.length co30, .slice Ao31 t347.length co31] 36 (0, 0)) (by (with_reducible repeat (first | refine bn_ ?_ _ | refine bd_ ?_ | refine ba_ ?_ _)); exact BK350.out) hb)
   have n10_ := AZ.mk (pT (by repeat (first | (with_reducible first | exact HB.out | apply pA | apply pN | apply pD | refine pS ?_ GE318.out | refine pS ?_ GE350.out) | exact HB.out)) hb)
   clear HO_351002
   clear HO_351003
   clear HO_351004
   clear HO_351005
   clear HO357
   clear HO360
   clear HO363
   clear HO366
   clear BK318
   clear BK350
   clear HB
   have HO_351002 := n0_
   have HO_351003 := n1_
   have HO_351004 := n2_
   have HO_351005 := n3_
   have HO357 := n4_
   have HO360 := n5_
   have HO363 := n6_
   have HO366 := n7_
   have BK318 := n8_
   have BK350 := n9_
   have HB := n10_
   clear n0_ n1_ n2_ n3_ n4_ n5_ n6_ n7_ n8_ n9_ n10_
   (try clear hb)
   (try clear hb2)
   (try clear hk)
   (try clear hi)
   refine hK.out _ _ ⟨(bc BK350.out 0).trans rfl, (bc BK350.out 1).trans rfl, (bc BK350.out 2).trans rfl, (bc BK350.out 3).trans rfl, (bc BK350.out 4).trans rfl, (bc BK350.out 5).trans rfl, (bc BK318.out 0).trans rfl, (bc BK318.out 1).trans rfl, (bc BK318.out 2).trans rfl, (bc BK318.out 3).trans rfl, (bc BK318.out 4).trans rfl, (bc BK318.out 5).trans rfl⟩ (fun hHeld => ?_)
   clear hK K
   refine norm_ (a' := ?_) ?_ ?_
   rotate_left
   ·show Act.put _ (some 42) _ = _
    simp only [Act.put, sA, sB, sC, i64_w, i32_w]
    rfl
   refine pure_ (i := 4) (N := some 43) (v := ?_) (a' := ?_) #[true, true, true, true, true] rfl rfl (by kernel_rfl) (fun _ _ _ h => h) (Or.inl ⟨by rfl, ?_⟩) ?_ ?_
   rotate_left
   ·intro w'
    go_simp
    with_reducible rfl
   rotate_left
   ·simp only [Act.put, sA, sB, sC, i64_w, i32_w]
    rfl
   refine done_ (by kernel_rfl) ?_
   try go_wp2
   go_ret
   exact ⟨by first | rfl | (simp [errW_none, errW_some] <;> rfl) | (simp [*, errW_none, errW_some] <;> rfl), by repeat (first | (with_reducible first | exact HB.out | apply pA | apply pN | apply pD | refine pS ?_ GE318.out | refine pS ?_ GE350.out) | exact HB.out)⟩
def laws_FnExactCountTaken.Pure : Prop := ∀ (a0_0 : Int) (a0_1 : Int) (l0_2 : List Bool) (l0_3 : List (List (S112))) (l0_4 : List (List (List Int))) (l0_5 : List (List Int)) (a1 : Int), (Lit.int .i64 a0_0).wf = true → (Lit.int .i64 a0_1).wf = true → (l0_2.length ≤ maxLen ∧ ∀ x0 ∈ l0_2, True) → (l0_3.length ≤ maxLen ∧ ∀ x0 ∈ l0_3, (x0.length ≤ maxLen ∧ ∀ x1 ∈ x0, ((Lit.int .i64 x1.f0).wf = true ∧ (Lit.int .i64 x1.f1).wf = true))) → (l0_4.length ≤ maxLen ∧ ∀ x0 ∈ l0_4, (x0.length ≤ maxLen ∧ ∀ x1 ∈ x0, (x1.length ≤ maxLen ∧ ∀ x2 ∈ x1, (Lit.int .i64 x2).wf = true))) → (l0_5.length ≤ maxLen ∧ ∀ x0 ∈ l0_5, (x0.length ≤ maxLen ∧ ∀ x1 ∈ x0, (Lit.int .i64 x1).wf = true)) → (Lit.int .i64 a1).wf = true → ∃ k, laws_FnExactCountTaken.f k a0_0 a0_1 l0_2 l0_3 l0_4 l0_5 a1 = some true
end Go.Proofs.Ytlmkkmoammgjdaa.P
namespace Go.Proofs.Ytlmkkmoammgjdaa.Th

def isC (b : Int) : Bool := b == 40 || b == 91
def isR (b : Int) : Bool := b == 41 || b == 93

structure St where
  p : List Int
  r : List Int
  c : List Int
  d : List Int
  q : List Int

def top (c : List Int) : Int := c.getLast?.getD (-1)

def step (s : St) (i b : Int) : St :=
  if isR b = true then
    if s.c = [] then ⟨s.p ++ [-2], s.r ++ [i], [], s.d ++ [0], s.q ++ [-1]⟩
    else ⟨s.p.set (top s.c).toNat i ++ [top s.c], s.r, s.c.dropLast, s.d ++ [(s.c.dropLast.length : Int)], s.q ++ [top s.c.dropLast]⟩
  else if isC b = true then ⟨s.p ++ [-2], s.r, s.c ++ [i], s.d ++ [(s.c.length : Int) + 1], s.q ++ [top s.c]⟩
  else ⟨s.p ++ [-1], s.r, s.c, s.d ++ [(s.c.length : Int)], s.q ++ [top s.c]⟩

def st (b : Int → Int) : Nat → St
  | 0 => ⟨[], [], [], [0], []⟩
  | n + 1 => step (st b n) n (b n)

def g (l : List Int) (j : Nat) : Int := l.getD j 0

end Go.Proofs.Ytlmkkmoammgjdaa.Th
namespace Go.Proofs.Ytlmkkmoammgjdaa.Br
open Go.RowKit Go.Proofs.Ytlmkkmoammgjdaa.P Go.Proofs.YtlmkkmoammgjdaaW.PrintWords Go.Proofs.YtlmkkmoammgjdaaW.PrintLast Go.Proofs.YtlmkkmoammgjdaaW.PrintMore Go.Proofs.Ytlmkkmoammgjdaa.Th
set_option linter.unusedVariables false
set_option linter.unusedSimpArgs false
theorem Ev.succ {α : Type} {g : Nat → Option α} {r : α} (h : Ev (fun k => g (k + 1)) r) : Ev g r := by
  obtain ⟨K, hK⟩ := h
  refine ⟨K + 1, fun k hk => ?_⟩
  obtain ⟨m, rfl⟩ : ∃ m, k = m + 1 := ⟨k - 1, by omega⟩
  exact hK m (by omega)
theorem Ev.done {α : Type} {r s : α} (h : r = s) : Ev (fun _ : Nat => some r) s := h ▸ Ev.now r
theorem w64 {x : Int} (h0 : -9223372036854775808 ≤ x) (h1 : x ≤ 9223372036854775807) : wrap64 x = x := by unfold wrap64; omega

/-- The number of a symbol, -1 if it is none. -/
def sym (b : Int) : Int := if b = 40 then 0 else if b = 91 then 1 else if b = 41 then 2 else if b = 93 then 3 else if b = 97 then 4 else if b = 98 then 5 else -1

theorem bs0 : bt (⟨#[40, 91, 41, 93, 97, 98]⟩ : ByteArray) 0 = 40 := by decide
theorem bs1 : bt (⟨#[40, 91, 41, 93, 97, 98]⟩ : ByteArray) 1 = 91 := by decide
theorem bs2 : bt (⟨#[40, 91, 41, 93, 97, 98]⟩ : ByteArray) 2 = 41 := by decide
theorem bs3 : bt (⟨#[40, 91, 41, 93, 97, 98]⟩ : ByteArray) 3 = 93 := by decide
theorem bs4 : bt (⟨#[40, 91, 41, 93, 97, 98]⟩ : ByteArray) 4 = 97 := by decide
theorem bs5 : bt (⟨#[40, 91, 41, 93, 97, 98]⟩ : ByteArray) 5 = 98 := by decide

theorem symbol_ev (b : Int) : Ev (fun k => spec_l01Symbol.f k b) (sym b) := by
  unfold spec_l01Symbol.f sym
  have w1 : wrap64 (0 + 1) = 1 := by unfold wrap64; omega
  have w2 : wrap64 (1 + 1) = 2 := by unfold wrap64; omega
  have w3 : wrap64 (2 + 1) = 3 := by unfold wrap64; omega
  have w4 : wrap64 (3 + 1) = 4 := by unfold wrap64; omega
  have w5 : wrap64 (4 + 1) = 5 := by unfold wrap64; omega
  have w6 : wrap64 (5 + 1) = 6 := by unfold wrap64; omega
  refine Ev.succ ?_
  simp only [spec_l01Symbol.l0, bs0]
  by_cases h0 : b = 40
  · subst h0; exact Ev.done rfl
  rw [if_neg h0]
  simp only [if_neg (Ne.symm h0), w1]
  refine Ev.succ ?_
  simp only [spec_l01Symbol.l0, bs1]
  by_cases h0 : b = 91
  · subst h0; exact Ev.done rfl
  rw [if_neg h0]
  simp only [if_neg (Ne.symm h0), w2]
  refine Ev.succ ?_
  simp only [spec_l01Symbol.l0, bs2]
  by_cases h0 : b = 41
  · subst h0; exact Ev.done rfl
  rw [if_neg h0]
  simp only [if_neg (Ne.symm h0), w3]
  refine Ev.succ ?_
  simp only [spec_l01Symbol.l0, bs3]
  by_cases h0 : b = 93
  · subst h0; exact Ev.done rfl
  rw [if_neg h0]
  simp only [if_neg (Ne.symm h0), w4]
  refine Ev.succ ?_
  simp only [spec_l01Symbol.l0, bs4]
  by_cases h0 : b = 97
  · subst h0; exact Ev.done rfl
  rw [if_neg h0]
  simp only [if_neg (Ne.symm h0), w5]
  refine Ev.succ ?_
  simp only [spec_l01Symbol.l0, bs5]
  by_cases h0 : b = 98
  · subst h0; exact Ev.done rfl
  rw [if_neg h0]
  simp only [if_neg (Ne.symm h0), w6]
  refine Ev.succ ?_
  simp only [spec_l01Symbol.l0]
  exact Ev.done rfl

end Go.Proofs.Ytlmkkmoammgjdaa.Br
namespace Go.Proofs.Ytlmkkmoammgjdaa.Br
open Go.RowKit Go.Proofs.Ytlmkkmoammgjdaa.P Go.Proofs.YtlmkkmoammgjdaaW.PrintWords Go.Proofs.YtlmkkmoammgjdaaW.PrintLast Go.Proofs.YtlmkkmoammgjdaaW.PrintMore Go.Proofs.Ytlmkkmoammgjdaa.Th
set_option linter.unusedVariables false
set_option linter.unusedSimpArgs false
theorem down {P : Nat → Prop} (n : Nat) (h0 : P n) (h1 : ∀ i, i < n → P (i + 1) → P i) : ∀ i, i ≤ n → P i := by
  have key : ∀ d i, i + d = n → P i := by
    intro d
    induction d with
    | zero => intro i hi; obtain rfl : i = n := by omega
              exact h0
    | succ d ih => intro i hi; exact h1 i (by omega) (ih (i + 1) (by omega))
  intro i hi
  exact key (n - i) i (by omega)
theorem up1 (i : Nat) (h : i < 9223372036854775807) : wrap64 ((i : Int) + 1) = ((i + 1 : Nat) : Int) := by
  rw [w64 (by omega) (by omega)]; rfl
theorem ilt {i n : Nat} (h : i < n) : (i : Int) < (n : Int) := by omega
theorem inlt {n : Nat} : ¬ ((n : Int) < (n : Int)) := by omega
theorem i0 (i : Nat) : 0 ≤ (i : Int) := by omega
theorem getD_mem {α : Type} (l : List α) (i : Nat) (d : α) (h : i < l.length) : l.getD i d ∈ l := by
  rw [List.getD_eq_getElem?_getD, List.getElem?_eq_getElem h]
  exact List.getElem_mem h
theorem take1 (a : Int) (n : Nat) (h0 : 0 ≤ a) (h1 : a ≤ 1048576) (hn : n ≤ 9223372036854775807) : wrap64 (a - (n : Int)) = a - (n : Int) := w64 (by omega) (by omega)

/-! ### loops, plainly -/
def allN (n : Nat) (e : Nat → Bool) : Bool := (List.range n).all e
def eqv {α : Type} (e : α → α → Bool) (d : α) (x y : List α) : Bool := decide (x.length = y.length) && allN x.length (fun i => e (x.getD i d) (y.getD i d))
theorem allN_true {n : Nat} {e : Nat → Bool} (h : ∀ i, i < n → e i = true) : allN n e = true := by
  unfold allN
  rw [List.all_eq_true]
  intro i hi
  exact h i (List.mem_range.1 hi)
theorem eqv_self {α : Type} (e : α → α → Bool) (d : α) (x : List α) (h : ∀ a ∈ x, e a a = true) : eqv e d x x = true := by
  unfold eqv
  rw [decide_eq_true rfl, Bool.true_and]
  exact allN_true (fun i hi => h _ (getD_mem x i d hi))
def allFromN (n : Nat) (e : Nat → Bool) : Nat → Bool
  | i => (List.range n).all fun j => decide (j < i) || e j
theorem allFromN_zero (n : Nat) (e : Nat → Bool) : allFromN n e 0 = allN n e := by
  unfold allFromN allN
  simp
theorem allFromN_end (n : Nat) (e : Nat → Bool) : allFromN n e n = true := by
  unfold allFromN
  rw [List.all_eq_true]
  intro j hj
  simp [List.mem_range.1 hj]
theorem allFromN_step (n : Nat) (e : Nat → Bool) (i : Nat) (hi : i < n) : allFromN n e i = (e i && allFromN n e (i + 1)) := by
  unfold allFromN
  apply Bool.eq_iff_iff.2
  rw [Bool.and_eq_true, List.all_eq_true, List.all_eq_true]
  constructor
  · intro H
    refine ⟨by simpa using H i (List.mem_range.2 hi), fun j hj => ?_⟩
    have := H j hj
    simp only [Bool.or_eq_true, decide_eq_true_eq] at this ⊢
    rcases this with h1 | h1
    · exact .inl (by omega)
    · exact .inr h1
  · rintro ⟨H0, H⟩ j hj
    have := H j hj
    simp only [Bool.or_eq_true, decide_eq_true_eq] at this ⊢
    by_cases h : j = i
    · subst h; exact .inr H0
    · rcases this with h1 | h1
      · exact .inl (by omega)
      · exact .inr h1
theorem allLoop (n : Nat) (L : Nat → Nat → Option Bool) (e : Nat → Bool) (hend : Ev (L n) true) (hs : ∀ i, i < n → ∀ r, Ev (L (i + 1)) r → Ev (L i) (e i && r)) : Ev (L 0) (allN n e) := by
  rw [← allFromN_zero]
  refine down (P := fun i => Ev (L i) (allFromN n e i)) n ?_ ?_ 0 (by omega)
  · show Ev (L n) (allFromN n e n)
    rw [allFromN_end]; exact hend
  · intro i hi ih
    show Ev (L i) (allFromN n e i)
    rw [allFromN_step n e i hi]
    exact hs i hi _ ih
theorem andEv {g : Nat → Option Bool} {a r : Bool} {f : Nat → Option Bool} (h : Ev g a) (k : Ev f r) : Ev (fun n => (g n).bind fun t => if t = true then f n else some false) (a && r) := by
  refine Ev.bind h ?_
  cases a with
  | true => simp only [if_true, Bool.true_and]; exact k
  | false => simp only [Bool.false_eq_true, if_false, Bool.false_and]; exact Ev.now _
theorem iteEv {a r : Bool} {f : Nat → Option Bool} (k : Ev f r) : Ev (fun n => if a = true then f n else some false) (a && r) := by
  cases a with
  | true => simp only [if_true, Bool.true_and]; exact k
  | false => simp only [Bool.false_eq_true, if_false, Bool.false_and]; exact Ev.now _
theorem notEv {a r : Bool} {f : Nat → Option Bool} (k : Ev f r) : Ev (fun n => if a = true then some false else f n) (!a && r) := by
  cases a with
  | false => simp only [Bool.false_eq_true, if_false, Bool.not_false, Bool.true_and]; exact k
  | true => simp only [if_true, Bool.not_true, Bool.false_and]; exact Ev.now _
theorem eqEv {a b : Int} {r : Bool} {f : Nat → Option Bool} (k : Ev f r) : Ev (fun n => if a = b then f n else some false) (a == b && r) := by
  by_cases h : a = b
  · subst h; simp only [if_true, beq_self_eq_true, Bool.true_and]; exact k
  · simp only [if_neg h, beq_false_of_ne h, Bool.false_and]; exact Ev.now _
theorem lenEv {m n : Nat} {r : Bool} {f : Nat → Option Bool} (k : m = n → Ev f r) : Ev (fun q => if (m : Int) = (n : Int) then f q else some false) (decide (m = n) && r) := by
  by_cases h : m = n
  · simp only [if_pos (show (m : Int) = (n : Int) by omega), decide_eq_true h, Bool.true_and]; exact k h
  · simp only [if_neg (show ¬ (m : Int) = (n : Int) by omega), decide_eq_false h, Bool.false_and]; exact Ev.now _
theorem toLoop {β : Type} (n : Nat) (L : Nat → List β → Nat → Option (List β)) (v : List β) (d : β) (hv : v.length = n) (hend : ∀ o, Ev (L n o) o)
    (hs : ∀ i o, i < n → o.length = n → Ev (L (i + 1) (o.set i (v.getD i d))) v → Ev (L i o) v) : ∀ o, o.length = n → Ev (L 0 o) v := by
  have key : ∀ i, i ≤ n → ∀ o, o.length = n → o.take i = v.take i → Ev (L i o) v := by
    refine down n ?_ ?_
    · intro o ho ht
      have : o = v := by rw [← List.take_length (l := o), ho, ht, List.take_of_length_le (by omega)]
      subst this
      exact hend o
    · intro i hi ih o ho ht
      refine hs i o hi ho (ih _ (by simpa using ho) ?_)
      rw [List.take_add_one, List.take_add_one, List.take_set_of_le (by omega), ht, List.getElem?_set_self (by omega), List.getElem?_eq_getElem (show i < v.length by omega), List.getD_eq_getElem?_getD, List.getElem?_eq_getElem (show i < v.length by omega)]
      rfl
  intro o ho
  exact key 0 (by omega) o ho (by simp)
theorem szLoop {α : Type} (l : List α) (d : α) (ok : α → Prop) (L : Nat → Int → Nat → Option Int) (hend : ∀ a, Ev (L l.length a) a)
    (hs : ∀ i, i < l.length → ∀ a, 0 ≤ a → a ≤ 1048576 → Ev (L i a) (-1) ∨ (ok (l.getD i d) ∧ ∃ b, 0 ≤ b ∧ b ≤ a ∧ ∀ r, Ev (L (i + 1) b) r → Ev (L i a) r)) :
    ∀ a, 0 ≤ a → a ≤ 1048576 → ∃ r, Ev (L 0 a) r ∧ (r < 0 ∨ (0 ≤ r ∧ r ≤ a ∧ ∀ x ∈ l, ok x)) := by
  have key : ∀ i, i ≤ l.length → ∀ a, 0 ≤ a → a ≤ 1048576 → ∃ r, Ev (L i a) r ∧ (r < 0 ∨ (0 ≤ r ∧ r ≤ a ∧ ∀ j, i ≤ j → j < l.length → ok (l.getD j d))) := by
    refine down l.length ?_ ?_
    · intro a h0 h1
      exact ⟨a, hend a, .inr ⟨h0, by omega, fun j _ _ => by omega⟩⟩
    · intro i hi ih a h0 h1
      rcases hs i hi a h0 h1 with h | ⟨ho, b, b0, b1, h⟩
      · exact ⟨-1, h, .inl (by omega)⟩
      · obtain ⟨r, hr, hr2⟩ := ih b b0 (by omega)
        refine ⟨r, h r hr, ?_⟩
        rcases hr2 with h2 | ⟨q0, q1, q2⟩
        · exact .inl h2
        · refine .inr ⟨q0, by omega, fun j hj hj2 => ?_⟩
          by_cases e : j = i
          · subst e; exact ho
          · exact q2 j (by omega) hj2
  intro a h0 h1
  obtain ⟨r, hr, hr2⟩ := key 0 (by omega) a h0 h1
  refine ⟨r, hr, ?_⟩
  rcases hr2 with h2 | ⟨q0, q1, q2⟩
  · exact .inl h2
  · refine .inr ⟨q0, q1, fun x hx => ?_⟩
    obtain ⟨j, hj⟩ := List.getElem?_of_mem hx
    have := q2 j (by omega) (List.getElem?_eq_some_iff.1 hj).1
    rwa [List.getD_eq_getElem?_getD, hj] at this
end Go.Proofs.Ytlmkkmoammgjdaa.Br
namespace Go.Proofs.Ytlmkkmoammgjdaa.Br
open Go.RowKit Go.Proofs.Ytlmkkmoammgjdaa.P Go.Proofs.YtlmkkmoammgjdaaW.PrintWords Go.Proofs.YtlmkkmoammgjdaaW.PrintLast Go.Proofs.YtlmkkmoammgjdaaW.PrintMore Go.Proofs.Ytlmkkmoammgjdaa.Th
set_option linter.unusedVariables false
set_option linter.unusedSimpArgs false
def eint (a b : Int) : Bool := a == b
def ebool (a b : Bool) : Bool := !(a != b)
def epush (x y : S92) : Bool := !(!(x.f0 == y.f0) || !(x.f1 == y.f1))
/-- How long a row is, and those inside. -/
def sm0 {α : Type} (l : List α) : Prop := l.length ≤ 1048576
def sm1 {α : Type} (l : List (List α)) : Prop := l.length ≤ 1048576 ∧ ∀ x ∈ l, sm0 x
def sm2 {α : Type} (l : List (List (List α))) : Prop := l.length ≤ 1048576 ∧ ∀ x ∈ l, sm1 x

theorem laws_eqPush_ev (x y : S92) : laws_eqPush.f x.f0 x.f1 y.f0 y.f1 = some (epush x y) := by
  unfold laws_eqPush.f epush
  by_cases h : x.f0 = y.f0
  · by_cases h2 : x.f1 = y.f1
    · simp [h, h2]
    · simp [h, h2]
  · simp [h]

theorem laws_eqInt64S_ev (x y : List Int) (hx : sm0 x) : Ev (fun k => laws_eqInt64S.f k x y) (eqv eint 0 x y) := by
  have hl : x.length ≤ 1048576 := hx
  unfold laws_eqInt64S.f eqv
  refine lenEv (fun h => allLoop x.length (fun i k => laws_eqInt64S.l0 k x y (i : Int)) _ ?_ ?_)
  · refine Ev.succ ?_
    simp only [laws_eqInt64S.l0, if_neg inlt]
    exact Ev.now _
  · intro i hi r hr
    refine Ev.succ ?_
    simp only [laws_eqInt64S.l0, if_pos (ilt hi), if_pos (i0 i), if_pos (ilt (show i < y.length by omega)), up1 i (by omega)]
    exact eqEv hr

theorem laws_eqBoolS_ev (x y : List Bool) (hx : sm0 x) : Ev (fun k => laws_eqBoolS.f k x y) (eqv ebool false x y) := by
  have hl : x.length ≤ 1048576 := hx
  unfold laws_eqBoolS.f eqv
  refine lenEv (fun h => allLoop x.length (fun i k => laws_eqBoolS.l0 k x y (i : Int)) _ ?_ ?_)
  · refine Ev.succ ?_
    simp only [laws_eqBoolS.l0, if_neg inlt]
    exact Ev.now _
  · intro i hi r hr
    refine Ev.succ ?_
    simp only [laws_eqBoolS.l0, if_pos (ilt hi), if_pos (i0 i), if_pos (ilt (show i < y.length by omega)), up1 i (by omega)]
    exact notEv hr

theorem laws_eqPushS_ev (x y : List S92) (hx : sm0 x) : Ev (fun k => laws_eqPushS.f k x y) (eqv epush z92 x y) := by
  have hl : x.length ≤ 1048576 := hx
  unfold laws_eqPushS.f eqv
  refine lenEv (fun h => allLoop x.length (fun i k => laws_eqPushS.l0 k x y (i : Int)) _ ?_ ?_)
  · refine Ev.succ ?_
    simp only [laws_eqPushS.l0, if_neg inlt]
    exact Ev.now _
  · intro i hi r hr
    refine Ev.succ ?_
    simp only [laws_eqPushS.l0, if_pos (ilt hi), if_pos (i0 i), if_pos (ilt (show i < y.length by omega)), up1 i (by omega)]
    exact andEv ⟨0, fun _ _ => laws_eqPush_ev (x.getD i z92) (y.getD i z92)⟩ hr

theorem laws_eqInt64SS_ev (x y : List (List Int)) (hx : sm1 x) : Ev (fun k => laws_eqInt64SS.f k x y) (eqv (eqv eint 0) ([] : (List Int)) x y) := by
  have hl : x.length ≤ 1048576 := hx.1
  unfold laws_eqInt64SS.f eqv
  refine lenEv (fun h => allLoop x.length (fun i k => laws_eqInt64SS.l0 k x y (i : Int)) _ ?_ ?_)
  · refine Ev.succ ?_
    simp only [laws_eqInt64SS.l0, if_neg inlt]
    exact Ev.now _
  · intro i hi r hr
    refine Ev.succ ?_
    simp only [laws_eqInt64SS.l0, if_pos (ilt hi), if_pos (i0 i), if_pos (ilt (show i < y.length by omega)), up1 i (by omega)]
    exact andEv (laws_eqInt64S_ev _ _ (hx.2 _ (getD_mem x i _ hi))) hr

theorem laws_eqInt64SSS_ev (x y : List (List (List Int))) (hx : sm2 x) : Ev (fun k => laws_eqInt64SSS.f k x y) (eqv (eqv (eqv eint 0) ([] : (List Int))) ([] : (List (List Int))) x y) := by
  have hl : x.length ≤ 1048576 := hx.1
  unfold laws_eqInt64SSS.f eqv
  refine lenEv (fun h => allLoop x.length (fun i k => laws_eqInt64SSS.l0 k x y (i : Int)) _ ?_ ?_)
  · refine Ev.succ ?_
    simp only [laws_eqInt64SSS.l0, if_neg inlt]
    exact Ev.now _
  · intro i hi r hr
    refine Ev.succ ?_
    simp only [laws_eqInt64SSS.l0, if_pos (ilt hi), if_pos (i0 i), if_pos (ilt (show i < y.length by omega)), up1 i (by omega)]
    exact andEv (laws_eqInt64SS_ev _ _ (hx.2 _ (getD_mem x i _ hi))) hr

theorem laws_eqPushSS_ev (x y : List (List S92)) (hx : sm1 x) : Ev (fun k => laws_eqPushSS.f k x y) (eqv (eqv epush z92) ([] : (List S92)) x y) := by
  have hl : x.length ≤ 1048576 := hx.1
  unfold laws_eqPushSS.f eqv
  refine lenEv (fun h => allLoop x.length (fun i k => laws_eqPushSS.l0 k x y (i : Int)) _ ?_ ?_)
  · refine Ev.succ ?_
    simp only [laws_eqPushSS.l0, if_neg inlt]
    exact Ev.now _
  · intro i hi r hr
    refine Ev.succ ?_
    simp only [laws_eqPushSS.l0, if_pos (ilt hi), if_pos (i0 i), if_pos (ilt (show i < y.length by omega)), up1 i (by omega)]
    exact andEv (laws_eqPushS_ev _ _ (hx.2 _ (getD_mem x i _ hi))) hr

end Go.Proofs.Ytlmkkmoammgjdaa.Br
namespace Go.Proofs.Ytlmkkmoammgjdaa.Br
open Go.RowKit Go.Proofs.Ytlmkkmoammgjdaa.P Go.Proofs.YtlmkkmoammgjdaaW.PrintWords Go.Proofs.YtlmkkmoammgjdaaW.PrintLast Go.Proofs.YtlmkkmoammgjdaaW.PrintMore Go.Proofs.Ytlmkkmoammgjdaa.Th
set_option linter.unusedVariables false
set_option linter.unusedSimpArgs false
theorem getD_map {α β : Type} (f : α → β) (l : List α) (i : Nat) (d : α) (d' : β) (h : i < l.length) : (l.map f).getD i d' = f (l.getD i d) := by
  rw [List.getD_eq_getElem?_getD, List.getD_eq_getElem?_getD, List.getElem?_map, List.getElem?_eq_getElem h]
  rfl
theorem laws_toInt64S_ev (l : List Int) (hl : sm0 l) : Ev (fun k => laws_toInt64S.f k l) l := by
  have hl' : l.length ≤ 1048576 := hl
  unfold laws_toInt64S.f
  simp only [if_pos (i0 l.length), Int.toNat_natCast, if_pos (show l.length ≤ 35184372088832 by omega)]
  refine toLoop l.length (fun i o k => laws_toInt64S.l0 k l o i) l 0 rfl ?_ ?_ _ (by simp)
  · intro o
    refine Ev.succ ?_
    simp only [laws_toInt64S.l0, if_neg inlt]
    exact Ev.now _
  · intro i o hi ho h
    refine Ev.succ ?_
    simp only [laws_toInt64S.l0, if_pos (ilt hi), if_pos (i0 i), if_pos (ilt (show i < o.length by omega)), up1 i (by omega), Int.toNat_natCast]
    exact h
theorem laws_toBoolS_ev (l : List Bool) (hl : sm0 l) : Ev (fun k => laws_toBoolS.f k l) l := by
  have hl' : l.length ≤ 1048576 := hl
  unfold laws_toBoolS.f
  simp only [if_pos (i0 l.length), Int.toNat_natCast, if_pos (show l.length ≤ 281474976710656 by omega)]
  refine toLoop l.length (fun i o k => laws_toBoolS.l0 k l o i) l false rfl ?_ ?_ _ (by simp)
  · intro o
    refine Ev.succ ?_
    simp only [laws_toBoolS.l0, if_neg inlt]
    exact Ev.now _
  · intro i o hi ho h
    refine Ev.succ ?_
    simp only [laws_toBoolS.l0, if_pos (ilt hi), if_pos (i0 i), if_pos (ilt (show i < o.length by omega)), up1 i (by omega), Int.toNat_natCast]
    exact h
def cPush (x : S112) : S92 := ⟨x.f0, x.f1⟩
theorem laws_toPushS_ev (l : List S112) (hl : sm0 l) : Ev (fun k => laws_toPushS.f k l) (l.map cPush) := by
  have hl' : l.length ≤ 1048576 := hl
  unfold laws_toPushS.f
  simp only [if_pos (i0 l.length), Int.toNat_natCast, if_pos (show l.length ≤ 17592186044416 by omega)]
  refine toLoop l.length (fun i o k => laws_toPushS.l0 k l o i) (l.map cPush) z92 (by simp) ?_ ?_ _ (by simp)
  · intro o
    refine Ev.succ ?_
    simp only [laws_toPushS.l0, if_neg inlt]
    exact Ev.now _
  · intro i o hi ho h
    refine Ev.succ ?_
    rw [getD_map cPush l i z112 _ hi] at h
    simp only [laws_toPushS.l0, if_pos (ilt hi), if_pos (i0 i), if_pos (ilt (show i < o.length by omega)), up1 i (by omega), Int.toNat_natCast, laws_toPush.f, Option.bind_some]
    exact h
theorem laws_toInt64SS_ev (l : List (List Int)) (hl : sm1 l) : Ev (fun k => laws_toInt64SS.f k l) l := by
  have hl' : l.length ≤ 1048576 := hl.1
  unfold laws_toInt64SS.f
  simp only [if_pos (i0 l.length), Int.toNat_natCast, if_pos (show l.length ≤ 11728124029610 by omega)]
  refine toLoop l.length (fun i o k => laws_toInt64SS.l0 k l o i) l [] rfl ?_ ?_ _ (by simp)
  · intro o
    refine Ev.succ ?_
    simp only [laws_toInt64SS.l0, if_neg inlt]
    exact Ev.now _
  · intro i o hi ho h
    refine Ev.succ ?_
    simp only [laws_toInt64SS.l0, if_pos (ilt hi), if_pos (i0 i), if_pos (ilt (show i < o.length by omega)), up1 i (by omega), Int.toNat_natCast]
    exact Ev.bind (laws_toInt64S_ev (l.getD i []) (hl.2 _ (getD_mem l i _ hi))) h
theorem laws_toInt64SSS_ev (l : List (List (List Int))) (hl : sm2 l) : Ev (fun k => laws_toInt64SSS.f k l) l := by
  have hl' : l.length ≤ 1048576 := hl.1
  unfold laws_toInt64SSS.f
  simp only [if_pos (i0 l.length), Int.toNat_natCast, if_pos (show l.length ≤ 11728124029610 by omega)]
  refine toLoop l.length (fun i o k => laws_toInt64SSS.l0 k l o i) l [] rfl ?_ ?_ _ (by simp)
  · intro o
    refine Ev.succ ?_
    simp only [laws_toInt64SSS.l0, if_neg inlt]
    exact Ev.now _
  · intro i o hi ho h
    refine Ev.succ ?_
    simp only [laws_toInt64SSS.l0, if_pos (ilt hi), if_pos (i0 i), if_pos (ilt (show i < o.length by omega)), up1 i (by omega), Int.toNat_natCast]
    exact Ev.bind (laws_toInt64SS_ev (l.getD i []) (hl.2 _ (getD_mem l i _ hi))) h
theorem laws_toPushSS_ev (l : List (List S112)) (hl : sm1 l) : Ev (fun k => laws_toPushSS.f k l) (l.map (List.map cPush)) := by
  have hl' : l.length ≤ 1048576 := hl.1
  unfold laws_toPushSS.f
  simp only [if_pos (i0 l.length), Int.toNat_natCast, if_pos (show l.length ≤ 11728124029610 by omega)]
  refine toLoop l.length (fun i o k => laws_toPushSS.l0 k l o i) (l.map (List.map cPush)) [] (by simp) ?_ ?_ _ (by simp)
  · intro o
    refine Ev.succ ?_
    simp only [laws_toPushSS.l0, if_neg inlt]
    exact Ev.now _
  · intro i o hi ho h
    refine Ev.succ ?_
    rw [getD_map (List.map cPush) l i [] _ hi] at h
    simp only [laws_toPushSS.l0, if_pos (ilt hi), if_pos (i0 i), if_pos (ilt (show i < o.length by omega)), up1 i (by omega), Int.toNat_natCast]
    exact Ev.bind (laws_toPushS_ev (l.getD i []) (hl.2 _ (getD_mem l i _ hi))) h
theorem laws_toChecker_ev (a b : Int) (l2 : List Bool) (l3 : List (List S112)) (l4 : List (List (List Int))) (l5 : List (List Int)) (h2 : sm0 l2) (h3 : sm1 l3) (h4 : sm2 l4) (h5 : sm1 l5) :
    Ev (fun k => laws_toChecker.f k a b l2 l3 l4 l5) (a, b, l2, l3.map (List.map cPush), l4, l5) := by
  unfold laws_toChecker.f
  exact Ev.bind (laws_toBoolS_ev l2 h2) (Ev.bind (laws_toPushSS_ev l3 h3) (Ev.bind (laws_toInt64SSS_ev l4 h4) (Ev.bind (laws_toInt64SS_ev l5 h5) (Ev.now _))))
theorem eint_self (a : Int) : eint a a = true := by simp [eint]
theorem ebool_self (a : Bool) : ebool a a = true := by simp [ebool]
theorem epush_self (a : S92) : epush a a = true := by simp [epush]
theorem laws_eqChecker_ev (a b : Int) (l2 : List Bool) (l3 : List (List S92)) (l4 : List (List (List Int))) (l5 : List (List Int)) (h2 : sm0 l2) (h3 : sm1 l3) (h4 : sm2 l4) (h5 : sm1 l5) :
    Ev (fun k => laws_eqChecker.f k a b l2 l3 l4 l5 a b l2 l3 l4 l5) true := by
  unfold laws_eqChecker.f
  simp only [if_true]
  have e2 := laws_eqBoolS_ev l2 l2 h2
  rw [eqv_self _ _ _ (fun a _ => ebool_self a)] at e2
  have e3 := laws_eqPushSS_ev l3 l3 h3
  rw [eqv_self _ _ _ (fun a _ => eqv_self _ _ _ (fun a _ => epush_self a))] at e3
  have e4 := laws_eqInt64SSS_ev l4 l4 h4
  rw [eqv_self _ _ _ (fun a _ => eqv_self _ _ _ (fun a _ => eqv_self _ _ _ (fun a _ => eint_self a)))] at e4
  have e5 := laws_eqInt64SS_ev l5 l5 h5
  rw [eqv_self _ _ _ (fun a _ => eqv_self _ _ _ (fun a _ => eint_self a))] at e5
  refine Ev.bind e2 ?_
  simp only [if_true]
  refine Ev.bind e3 ?_
  simp only [if_true]
  refine Ev.bind e4 ?_
  simp only [if_true]
  refine Ev.bind e5 ?_
  simp only [if_true]
  exact Ev.now _
theorem laws_szBoolS_ev (l : List Bool) (a : Int) (h0 : 0 ≤ a) (h1 : a ≤ 1048576) (hl : l.length ≤ 9223372036854775807) : ∃ r, laws_szBoolS.f l a = some r ∧ (r < 0 ∨ (0 ≤ r ∧ r ≤ a ∧ sm0 l)) := by
  unfold laws_szBoolS.f
  rw [take1 a _ h0 h1 hl]
  by_cases h : a - (l.length : Int) < 0
  · exact ⟨-1, by rw [if_pos h], .inl (by omega)⟩
  · exact ⟨_, by rw [if_neg h], .inr ⟨by omega, by omega, by show l.length ≤ 1048576; omega⟩⟩
theorem laws_szPushS_ev (l : List S112) (a : Int) (h0 : 0 ≤ a) (h1 : a ≤ 1048576) (hl : l.length ≤ 9223372036854775807) : ∃ r, laws_szPushS.f l a = some r ∧ (r < 0 ∨ (0 ≤ r ∧ r ≤ a ∧ sm0 l)) := by
  unfold laws_szPushS.f
  rw [take1 a _ h0 h1 hl]
  by_cases h : a - (l.length : Int) < 0
  · exact ⟨-1, by rw [if_pos h], .inl (by omega)⟩
  · exact ⟨_, by rw [if_neg h], .inr ⟨by omega, by omega, by show l.length ≤ 1048576; omega⟩⟩
theorem laws_szInt64S_ev (l : List Int) (a : Int) (h0 : 0 ≤ a) (h1 : a ≤ 1048576) (hl : l.length ≤ 9223372036854775807) : ∃ r, laws_szInt64S.f l a = some r ∧ (r < 0 ∨ (0 ≤ r ∧ r ≤ a ∧ sm0 l)) := by
  unfold laws_szInt64S.f
  rw [take1 a _ h0 h1 hl]
  by_cases h : a - (l.length : Int) < 0
  · exact ⟨-1, by rw [if_pos h], .inl (by omega)⟩
  · exact ⟨_, by rw [if_neg h], .inr ⟨by omega, by omega, by show l.length ≤ 1048576; omega⟩⟩
theorem laws_szPushSS_ev (l : List (List S112)) (a : Int) (h0 : 0 ≤ a) (h1 : a ≤ 1048576) (hl : l.length ≤ 9223372036854775807) (hi : ∀ x ∈ l, x.length ≤ 9223372036854775807) :
    ∃ r, Ev (fun k => laws_szPushSS.f k l a) r ∧ (r < 0 ∨ (0 ≤ r ∧ r ≤ a ∧ sm1 l)) := by
  unfold laws_szPushSS.f
  rw [take1 a _ h0 h1 hl]
  by_cases h : a - (l.length : Int) < 0
  · exact ⟨-1, by simp only [if_pos h]; exact Ev.now _, .inl (by omega)⟩
  · obtain ⟨r, hr, hr2⟩ := szLoop l [] sm0 (fun i c k => laws_szPushSS.l0 k l c i) (fun c => by
        refine Ev.succ ?_
        simp only [laws_szPushSS.l0, if_neg inlt]
        exact Ev.now _) (fun i hi' c c0 c1 => by
        have hm := getD_mem l i [] hi'
        obtain ⟨r, hr, hr2⟩ := laws_szPushS_ev (l.getD i []) c c0 c1 (hi _ hm)
        by_cases hn : r < 0
        · refine .inl (Ev.succ ?_)
          simp only [laws_szPushSS.l0, if_pos (ilt hi'), if_pos (i0 i)]
          exact Ev.bind ⟨0, fun _ _ => hr⟩ (by simp only [if_pos hn]; exact Ev.now _)
        · rcases hr2 with h2 | ⟨q0, q1, q2⟩
          · exact absurd h2 hn
          · refine .inr ⟨q2, r, q0, q1, fun s hs => Ev.succ ?_⟩
            simp only [laws_szPushSS.l0, if_pos (ilt hi'), if_pos (i0 i), up1 i (by omega)]
            exact Ev.bind ⟨0, fun _ _ => hr⟩ (by simp only [if_neg hn]; exact hs)) (a - (l.length : Int)) (by omega) (by omega)
    refine ⟨r, by simp only [if_neg h]; exact hr, ?_⟩
    rcases hr2 with h2 | ⟨q0, q1, q2⟩
    · exact .inl h2
    · exact .inr ⟨q0, by omega, ⟨by omega, q2⟩⟩
theorem laws_szInt64SS_ev (l : List (List Int)) (a : Int) (h0 : 0 ≤ a) (h1 : a ≤ 1048576) (hl : l.length ≤ 9223372036854775807) (hi : ∀ x ∈ l, x.length ≤ 9223372036854775807) :
    ∃ r, Ev (fun k => laws_szInt64SS.f k l a) r ∧ (r < 0 ∨ (0 ≤ r ∧ r ≤ a ∧ sm1 l)) := by
  unfold laws_szInt64SS.f
  rw [take1 a _ h0 h1 hl]
  by_cases h : a - (l.length : Int) < 0
  · exact ⟨-1, by simp only [if_pos h]; exact Ev.now _, .inl (by omega)⟩
  · obtain ⟨r, hr, hr2⟩ := szLoop l [] sm0 (fun i c k => laws_szInt64SS.l0 k l c i) (fun c => by
        refine Ev.succ ?_
        simp only [laws_szInt64SS.l0, if_neg inlt]
        exact Ev.now _) (fun i hi' c c0 c1 => by
        have hm := getD_mem l i [] hi'
        obtain ⟨r, hr, hr2⟩ := laws_szInt64S_ev (l.getD i []) c c0 c1 (hi _ hm)
        by_cases hn : r < 0
        · refine .inl (Ev.succ ?_)
          simp only [laws_szInt64SS.l0, if_pos (ilt hi'), if_pos (i0 i)]
          exact Ev.bind ⟨0, fun _ _ => hr⟩ (by simp only [if_pos hn]; exact Ev.now _)
        · rcases hr2 with h2 | ⟨q0, q1, q2⟩
          · exact absurd h2 hn
          · refine .inr ⟨q2, r, q0, q1, fun s hs => Ev.succ ?_⟩
            simp only [laws_szInt64SS.l0, if_pos (ilt hi'), if_pos (i0 i), up1 i (by omega)]
            exact Ev.bind ⟨0, fun _ _ => hr⟩ (by simp only [if_neg hn]; exact hs)) (a - (l.length : Int)) (by omega) (by omega)
    refine ⟨r, by simp only [if_neg h]; exact hr, ?_⟩
    rcases hr2 with h2 | ⟨q0, q1, q2⟩
    · exact .inl h2
    · exact .inr ⟨q0, by omega, ⟨by omega, q2⟩⟩
theorem laws_szInt64SSS_ev (l : List (List (List Int))) (a : Int) (h0 : 0 ≤ a) (h1 : a ≤ 1048576) (hl : l.length ≤ 9223372036854775807) (hi : ∀ x ∈ l, (x.length ≤ 9223372036854775807 ∧ ∀ y ∈ x, y.length ≤ 9223372036854775807)) :
    ∃ r, Ev (fun k => laws_szInt64SSS.f k l a) r ∧ (r < 0 ∨ (0 ≤ r ∧ r ≤ a ∧ sm2 l)) := by
  unfold laws_szInt64SSS.f
  rw [take1 a _ h0 h1 hl]
  by_cases h : a - (l.length : Int) < 0
  · exact ⟨-1, by simp only [if_pos h]; exact Ev.now _, .inl (by omega)⟩
  · obtain ⟨r, hr, hr2⟩ := szLoop l [] sm1 (fun i c k => laws_szInt64SSS.l0 k l c i) (fun c => by
        refine Ev.succ ?_
        simp only [laws_szInt64SSS.l0, if_neg inlt]
        exact Ev.now _) (fun i hi' c c0 c1 => by
        have hm := getD_mem l i [] hi'
        obtain ⟨r, hr, hr2⟩ := laws_szInt64SS_ev (l.getD i []) c c0 c1 (hi _ hm).1 (hi _ hm).2
        by_cases hn : r < 0
        · refine .inl (Ev.succ ?_)
          simp only [laws_szInt64SSS.l0, if_pos (ilt hi'), if_pos (i0 i)]
          exact Ev.bind hr (by simp only [if_pos hn]; exact Ev.now _)
        · rcases hr2 with h2 | ⟨q0, q1, q2⟩
          · exact absurd h2 hn
          · refine .inr ⟨q2, r, q0, q1, fun s hs => Ev.succ ?_⟩
            simp only [laws_szInt64SSS.l0, if_pos (ilt hi'), if_pos (i0 i), up1 i (by omega)]
            exact Ev.bind hr (by simp only [if_neg hn]; exact hs)) (a - (l.length : Int)) (by omega) (by omega)
    refine ⟨r, by simp only [if_neg h]; exact hr, ?_⟩
    rcases hr2 with h2 | ⟨q0, q1, q2⟩
    · exact .inl h2
    · exact .inr ⟨q0, by omega, ⟨by omega, q2⟩⟩
theorem laws_szChecker_ev (a b : Int) (l2 : List Bool) (l3 : List (List S112)) (l4 : List (List (List Int))) (l5 : List (List Int)) (c : Int) (h0 : 0 ≤ c) (h1 : c ≤ 1048576)
    (h2 : l2.length ≤ 9223372036854775807) (h3 : l3.length ≤ 9223372036854775807 ∧ ∀ x ∈ l3, x.length ≤ 9223372036854775807)
    (h4 : l4.length ≤ 9223372036854775807 ∧ ∀ x ∈ l4, (x.length ≤ 9223372036854775807 ∧ ∀ y ∈ x, y.length ≤ 9223372036854775807)) (h5 : l5.length ≤ 9223372036854775807 ∧ ∀ x ∈ l5, x.length ≤ 9223372036854775807) :
    ∃ r, Ev (fun k => laws_szChecker.f k a b l2 l3 l4 l5 c) r ∧ (r < 0 ∨ (0 ≤ r ∧ r ≤ c ∧ sm0 l2 ∧ sm1 l3 ∧ sm2 l4 ∧ sm1 l5)) := by
  unfold laws_szChecker.f
  obtain ⟨r2, e2, q2⟩ := laws_szBoolS_ev l2 c h0 h1 h2
  by_cases n2 : r2 < 0
  · exact ⟨-1, Ev.bind ⟨0, fun _ _ => e2⟩ (by simp only [if_pos n2]; exact Ev.now _), .inl (by omega)⟩
  obtain ⟨r3, e3, q3⟩ := laws_szPushSS_ev l3 r2 (by omega) (by omega) h3.1 h3.2
  by_cases n3 : r3 < 0
  · exact ⟨-1, Ev.bind ⟨0, fun _ _ => e2⟩ (by simp only [if_neg n2]; exact Ev.bind e3 (by simp only [if_pos n3]; exact Ev.now _)), .inl (by omega)⟩
  obtain ⟨r4, e4, q4⟩ := laws_szInt64SSS_ev l4 r3 (by omega) (by omega) h4.1 h4.2
  by_cases n4 : r4 < 0
  · exact ⟨-1, Ev.bind ⟨0, fun _ _ => e2⟩ (by simp only [if_neg n2]; exact Ev.bind e3 (by simp only [if_neg n3]; exact Ev.bind e4 (by simp only [if_pos n4]; exact Ev.now _))), .inl (by omega)⟩
  obtain ⟨r5, e5, q5⟩ := laws_szInt64SS_ev l5 r4 (by omega) (by omega) h5.1 h5.2
  by_cases n5 : r5 < 0
  · exact ⟨-1, Ev.bind ⟨0, fun _ _ => e2⟩ (by simp only [if_neg n2]; exact Ev.bind e3 (by simp only [if_neg n3]; exact Ev.bind e4 (by simp only [if_neg n4]; exact Ev.bind e5 (by simp only [if_pos n5]; exact Ev.now _)))), .inl (by omega)⟩
  · refine ⟨r5, Ev.bind ⟨0, fun _ _ => e2⟩ (by simp only [if_neg n2]; exact Ev.bind e3 (by simp only [if_neg n3]; exact Ev.bind e4 (by simp only [if_neg n4]; exact Ev.bind e5 (by simp only [if_neg n5]; exact Ev.now _)))), .inr ?_⟩
    rcases q2 with q2 | q2
    · omega
    rcases q3 with q3 | q3
    · omega
    rcases q4 with q4 | q4
    · omega
    rcases q5 with q5 | q5
    · omega
    exact ⟨by omega, by omega, q2.2.2, q3.2.2, q4.2.2, q5.2.2⟩
end Go.Proofs.Ytlmkkmoammgjdaa.Br
namespace Go.Proofs.Ytlmkkmoammgjdaa.Br
open Go.RowKit Go.Proofs.Ytlmkkmoammgjdaa.P Go.Proofs.YtlmkkmoammgjdaaW.PrintWords Go.Proofs.YtlmkkmoammgjdaaW.PrintLast Go.Proofs.YtlmkkmoammgjdaaW.PrintMore Go.Proofs.Ytlmkkmoammgjdaa.Th
set_option linter.unusedVariables false
set_option linter.unusedSimpArgs false
theorem in_eq (a lo hi : Int) : spec_l00In.f a lo hi = some (decide (lo ≤ a ∧ a ≤ hi)) := by
  unfold spec_l00In.f
  by_cases h : a ≥ lo
  · rw [if_pos h]; congr 1; simp; omega
  · rw [if_neg h]; congr 1; simp; omega
theorem within_eq (a lo hi : Int) : impl_within.f a lo hi = some (decide (lo ≤ a ∧ a ≤ hi)) := by
  unfold impl_within.f
  by_cases h : a ≥ lo
  · rw [if_pos h]; congr 1; simp; omega
  · rw [if_neg h]; congr 1; simp; omega

end Go.Proofs.Ytlmkkmoammgjdaa.Br
namespace Go.Proofs.Ytlmkkmoammgjdaa.Br
open Go.RowKit Go.Proofs.Ytlmkkmoammgjdaa.P Go.Proofs.YtlmkkmoammgjdaaW.PrintWords Go.Proofs.YtlmkkmoammgjdaaW.PrintLast Go.Proofs.YtlmkkmoammgjdaaW.PrintMore Go.Proofs.Ytlmkkmoammgjdaa.Th
set_option linter.unusedVariables false
set_option linter.unusedSimpArgs false
set_option linter.unusedSectionVars false
def inR (n x : Int) : Bool := decide (0 ≤ x ∧ x ≤ n - 1)
def lst (n len : Int) (l : List Int) : Bool := decide ((l.length : Int) = len) && allN l.length (fun i => inR n (l.getD i 0))
theorem rd_getD (l : List Int) (i : Nat) : rd l i = l.getD i 0 := by unfold rd; rw [Int.toNat_natCast]
theorem specList_ev (l : List Int) (len n : Int) (hl : l.length ≤ 1048576) (h0 : -1000000 ≤ n) (h1 : n ≤ 1000000) : Ev (fun k => spec_l02List.f k l len n) (lst n len l) := by
  have f1 : wrap64 (n - 1) = n - 1 := w64 (by omega) (by omega)
  unfold spec_l02List.f lst
  by_cases h : (l.length : Int) = len
  · rw [decide_eq_true h, Bool.true_and]
    simp only [if_pos h]
    refine allLoop l.length (fun i k => spec_l02List.l0 k l n (i : Int)) _ ?_ ?_
    · refine Ev.succ ?_
      simp only [spec_l02List.l0, if_neg inlt]
      exact Ev.now _
    · intro i hi r hr
      refine Ev.succ ?_
      simp only [spec_l02List.l0, if_pos (ilt hi), if_pos (i0 i), in_eq, Option.bind_some, f1, rd_getD, up1 i (by clear f1; omega)]
      exact iteEv hr
  · rw [decide_eq_false h, Bool.false_and]
    simp only [if_neg h]
    exact Ev.now _
theorem isState_eq (a b : Int) (l2 : List Bool) (l3 : List (List S92)) (l4 : List (List (List Int))) (l5 : List (List Int)) (x : Int) (h : l2.length ≤ 1048576) : impl_Checker_isState.f a b l2 l3 l4 l5 x = some (inR (l2.length : Int) x) := by
  have f1 : wrap64 ((l2.length : Int) - 1) = (l2.length : Int) - 1 := w64 (by omega) (by omega)
  unfold impl_Checker_isState.f impl_size_bool.f
  simp only [Option.bind_some, within_eq, f1]
  rfl
theorem isMark_eq (a b : Int) (l2 : List Bool) (l3 : List (List S92)) (l4 : List (List (List Int))) (l5 : List (List Int)) (x : Int) (h0 : -1000000 ≤ a) (h1 : a ≤ 1000000) : impl_Checker_isMark.f a b l2 l3 l4 l5 x = some (inR a x) := by
  have f1 : wrap64 (a - 1) = a - 1 := w64 (by omega) (by omega)
  unfold impl_Checker_isMark.f
  simp only [Option.bind_some, within_eq, f1]
  rfl
theorem implList_ev (a b : Int) (l2 : List Bool) (l3 : List (List S92)) (l4 : List (List (List Int))) (l5 : List (List Int)) (l : List Int) (len : Int) (hl : l.length ≤ 1048576) (h : l2.length ≤ 1048576) : Ev (fun k => impl_ValidChecker_1_c.f k l len a b l2 l3 l4 l5) (lst (l2.length : Int) len l) := by
  have loop : ∀ i, i ≤ l.length → ∃ r : Int, Ev (fun k => slices_IndexFunc_Lint64_int64_at_impl_ValidChecker_1_1.l0 k l (l.length : Int) i a b l2 l3 l4 l5) r ∧ (allFromN l.length (fun i => inR (l2.length : Int) (l.getD i 0)) i = !(decide (r ≥ 0))) := by
    refine down l.length ?_ ?_
    · refine ⟨-1, Ev.succ ?_, by rw [allFromN_end]; rfl⟩
      simp only [slices_IndexFunc_Lint64_int64_at_impl_ValidChecker_1_1.l0, if_neg inlt]
      exact Ev.now _
    · intro i hi ih
      obtain ⟨r, hr, he⟩ := ih
      cases e : inR (l2.length : Int) (l.getD i 0)
      · refine ⟨(i : Int), Ev.succ ?_, ?_⟩
        · simp only [slices_IndexFunc_Lint64_int64_at_impl_ValidChecker_1_1.l0, if_pos (ilt hi), if_pos (i0 i), impl_ValidChecker_1_1_c.f, isState_eq a b l2 l3 l4 l5 _ h, Option.bind_some, rd_getD, e, Bool.not_false, if_true]
          exact Ev.now _
        · rw [allFromN_step _ _ i hi, e, Bool.false_and]
          simp
      · refine ⟨r, Ev.succ ?_, ?_⟩
        · simp only [slices_IndexFunc_Lint64_int64_at_impl_ValidChecker_1_1.l0, if_pos (ilt hi), if_pos (i0 i), impl_ValidChecker_1_1_c.f, isState_eq a b l2 l3 l4 l5 _ h, Option.bind_some, rd_getD, e, Bool.not_true, Bool.false_eq_true, if_false, up1 i (by omega)]
          exact hr
        · rw [allFromN_step _ _ i hi, e, Bool.true_and, he]
  unfold impl_ValidChecker_1_c.f impl_size_int64.f lst
  simp only [Option.bind_some]
  by_cases hh : (l.length : Int) = len
  · rw [decide_eq_true hh, Bool.true_and, ← allFromN_zero]
    simp only [if_pos hh]
    obtain ⟨r, hr, he⟩ := loop 0 (by omega)
    rw [he]
    unfold slices_ContainsFunc_Lint64_int64_at_impl_ValidChecker_1_1.f slices_IndexFunc_Lint64_int64_at_impl_ValidChecker_1_1.f
    exact Ev.bind (Ev.bind hr (Ev.now _)) (Ev.now _)
  · rw [decide_eq_false hh, Bool.false_and]
    simp only [if_neg hh]
    exact Ev.now _
def rowC (a b : Int) (l2 : List Bool) (l3 : List (List S92)) (l4 : List (List (List Int))) (l5 : List (List Int)) (i q : Nat) : Bool := inR (l2.length : Int) ((l3.getD i []).getD q z92).f0 && (inR a ((l3.getD i []).getD q z92).f1 && lst (l2.length : Int) (a + 1) ((l4.getD i []).getD q []))
def stC (a b : Int) (l2 : List Bool) (l3 : List (List S92)) (l4 : List (List (List Int))) (l5 : List (List Int)) (i : Nat) : Bool := decide ((l3.getD i []).length = 2) && (decide ((l4.getD i []).length = 2) && (lst (l2.length : Int) 2 (l5.getD i []) && (rowC a b l2 l3 l4 l5 i 0 && rowC a b l2 l3 l4 l5 i 1)))
def okC (a b : Int) (l2 : List Bool) (l3 : List (List S92)) (l4 : List (List (List Int))) (l5 : List (List Int)) : Bool := decide (1 ≤ (l2.length : Int) ∧ (l2.length : Int) ≤ 40) && (decide (1 ≤ a ∧ a ≤ 80) && (inR (l2.length : Int) b && (decide (l3.length = l2.length) && (decide (l4.length = l2.length) && (decide (l5.length = l2.length) && allN l2.length (stC a b l2 l3 l4 l5))))))
section
variable (a b : Int) (l2 : List Bool) (l3 : List (List S92)) (l4 : List (List (List Int))) (l5 : List (List Int)) (hn : l2.length ≤ 40) (ha0 : 1 ≤ a) (ha1 : a ≤ 80) (h4 : sm2 l4) (h5 : sm1 l5) (e3 : l3.length = l2.length) (e4 : l4.length = l2.length) (e5 : l5.length = l2.length)
include hn ha0 ha1 h4 h5 e3 e4 e5
theorem specRow_ev (i q : Nat) (hi : i < l2.length) (hq : q < 2) (g3 : (l3.getD i []).length = 2) (g4 : (l4.getD i []).length = 2) (R : Bool) (hR : Ev (fun k => spec_l02Ok.l1 k (l2.length : Int) i ((q + 1 : Nat) : Int) a b l2 l3 l4 l5) R) :
    Ev (fun k => spec_l02Ok.l1 k (l2.length : Int) i q a b l2 l3 l4 l5) (rowC a b l2 l3 l4 l5 i q && R) := by
  have r3 : rd_L9 l3 (i : Int) = l3.getD i [] := by unfold rd_L9; rw [Int.toNat_natCast]
  have r4 : rd_L7 l4 (i : Int) = l4.getD i [] := by unfold rd_L7; rw [Int.toNat_natCast]
  have r5 : ∀ l : List (List Int), rd_L6 l (q : Int) = l.getD q [] := fun l => by unfold rd_L6; rw [Int.toNat_natCast]
  have r6 : ∀ l : List S92, rd_T92 l (q : Int) = l.getD q z92 := fun l => by unfold rd_T92; rw [Int.toNat_natCast]
  have hsm : ((l4.getD i []).getD q []).length ≤ 1048576 := (h4.2 _ (getD_mem l4 i [] (by omega))).2 _ (getD_mem _ q _ (by omega))
  have c1 : (q : Int) < 2 := by omega
  have c2 : (i : Int) < (l3.length : Int) := by omega
  have c3 : (q : Int) < ((l3.getD i []).length : Int) := by omega
  have c4 : (i : Int) < (l4.length : Int) := by omega
  have c5 : (q : Int) < ((l4.getD i []).length : Int) := by omega
  have hl := specList_ev ((l4.getD i []).getD q []) (a + 1) (l2.length : Int) hsm (by omega) (by omega)
  have u1 := up1 q (by omega)
  have f1 : wrap64 ((l2.length : Int) - 1) = (l2.length : Int) - 1 := by clear u1; exact w64 (by omega) (by omega)
  have f2 : wrap64 (a - 1) = a - 1 := by clear u1 f1; exact w64 (by omega) (by omega)
  have f3 : wrap64 (a + 1) = a + 1 := by clear u1 f1 f2; exact w64 (by omega) (by omega)
  have no : Ev (fun k => spec_l02Ok.j4 k (l2.length : Int) i q true a b l2 l3 l4 l5) false := by
    refine Ev.succ ?_
    simp only [spec_l02Ok.j4, if_true]
    exact Ev.now _
  refine Ev.succ ?_
  simp only [spec_l02Ok.l1, if_pos c1, if_pos (i0 i), if_pos c2, if_pos (i0 q), r3, r4, r5, r6, if_pos c3, in_eq, Option.bind_some, f1, f2, f3, if_pos c4, if_pos c5]
  unfold rowC inR
  by_cases q1 : 0 ≤ ((l3.getD i []).getD q z92).f0 ∧ ((l3.getD i []).getD q z92).f0 ≤ (l2.length : Int) - 1
  · rw [decide_eq_true q1, Bool.true_and]
    simp only [if_true]
    by_cases q2 : 0 ≤ ((l3.getD i []).getD q z92).f1 ∧ ((l3.getD i []).getD q z92).f1 ≤ a - 1
    · rw [decide_eq_true q2, Bool.true_and]
      simp only [if_true]
      refine Ev.bind hl ?_
      cases lst (l2.length : Int) (a + 1) ((l4.getD i []).getD q [])
      · exact no
      · refine Ev.succ ?_
        simp only [spec_l02Ok.j4, Bool.not_true, Bool.false_eq_true, if_false, u1, Bool.true_and]
        exact hR
    · rw [decide_eq_false q2, Bool.false_and, Bool.false_and]
      simp only [Bool.false_eq_true, if_false]
      exact no
  · rw [decide_eq_false q1, Bool.false_and, Bool.false_and]
    simp only [Bool.false_eq_true, if_false]
    exact no
theorem implRow_ev (i q : Nat) (hi : i < l2.length) (hq : q < 2) (g3 : (l3.getD i []).length = 2) (g4 : (l4.getD i []).length = 2) (R : Bool) (hR : Ev (fun k => impl_ValidChecker.l1 k i (l2.length : Int) i ((q + 1 : Nat) : Int) a b l2 l3 l4 l5) R) :
    Ev (fun k => impl_ValidChecker.l1 k i (l2.length : Int) i q a b l2 l3 l4 l5) (rowC a b l2 l3 l4 l5 i q && R) := by
  have r3 : rd_L9 l3 (i : Int) = l3.getD i [] := by unfold rd_L9; rw [Int.toNat_natCast]
  have r4 : rd_L7 l4 (i : Int) = l4.getD i [] := by unfold rd_L7; rw [Int.toNat_natCast]
  have r5 : ∀ l : List (List Int), rd_L6 l (q : Int) = l.getD q [] := fun l => by unfold rd_L6; rw [Int.toNat_natCast]
  have r6 : ∀ l : List S92, rd_T92 l (q : Int) = l.getD q z92 := fun l => by unfold rd_T92; rw [Int.toNat_natCast]
  have hsm : ((l4.getD i []).getD q []).length ≤ 1048576 := (h4.2 _ (getD_mem l4 i [] (by omega))).2 _ (getD_mem _ q _ (by omega))
  have c1 : (q : Int) < 2 := by omega
  have c2 : (i : Int) < (l3.length : Int) := by omega
  have c3 : (q : Int) < ((l3.getD i []).length : Int) := by omega
  have c4 : (i : Int) < (l4.length : Int) := by omega
  have c5 : (q : Int) < ((l4.getD i []).length : Int) := by omega
  have hb : l2.length ≤ 1048576 := by omega
  have hb0 : -1000000 ≤ a := by omega
  have hb1 : a ≤ 1000000 := by omega
  have hl := implList_ev a b l2 l3 l4 l5 ((l4.getD i []).getD q []) (a + 1) hsm hb
  have u1 := up1 q (by omega)
  have f3 : wrap64 (a + 1) = a + 1 := by clear u1; exact w64 (by omega) (by omega)
  refine Ev.succ ?_
  simp only [impl_ValidChecker.l1, if_pos c1, if_pos (i0 i), if_pos c2, if_pos (i0 q), r3, r4, r5, r6, if_pos c3, isState_eq a b l2 l3 l4 l5 _ hb, isMark_eq a b l2 l3 l4 l5 _ hb0 hb1, Option.bind_some, f3, if_pos c4, if_pos c5, u1]
  unfold rowC
  cases inR (l2.length : Int) ((l3.getD i []).getD q z92).f0
  · simp only [Bool.false_eq_true, if_false, Bool.false_and]
    exact Ev.now _
  · simp only [if_true, Bool.true_and]
    cases inR a ((l3.getD i []).getD q z92).f1
    · simp only [Bool.false_eq_true, if_false, Bool.false_and]
      exact Ev.now _
    · simp only [if_true, Bool.true_and]
      exact andEv hl hR
theorem specOk_l0 : ∀ i, i ≤ l2.length → Ev (fun k => spec_l02Ok.l0 k (l2.length : Int) i a b l2 l3 l4 l5) (allFromN l2.length (stC a b l2 l3 l4 l5) i) := by
  refine down l2.length ?_ ?_
  · refine Ev.succ ?_
    rw [allFromN_end]
    simp only [spec_l02Ok.l0, if_neg inlt]
    exact Ev.now _
  · intro i hi ih
    have r3 : rd_L9 l3 (i : Int) = l3.getD i [] := by unfold rd_L9; rw [Int.toNat_natCast]
    have r4 : rd_L7 l4 (i : Int) = l4.getD i [] := by unfold rd_L7; rw [Int.toNat_natCast]
    have r5 : rd_L6 l5 (i : Int) = l5.getD i [] := by unfold rd_L6; rw [Int.toNat_natCast]
    have c1 : (i : Int) < (l3.length : Int) := by omega
    have c2 : (i : Int) < (l4.length : Int) := by omega
    have c3 : (i : Int) < (l5.length : Int) := by omega
    have hsm : (l5.getD i []).length ≤ 1048576 := h5.2 _ (getD_mem l5 i [] (by omega))
    have hl := specList_ev (l5.getD i []) 2 (l2.length : Int) hsm (by omega) (by omega)
    have no : Ev (fun k => spec_l02Ok.j2 k (l2.length : Int) i true a b l2 l3 l4 l5) false := by
      refine Ev.succ ?_
      simp only [spec_l02Ok.j2, if_true]
      exact Ev.now _
    rw [allFromN_step _ _ i hi]
    unfold stC
    refine Ev.succ ?_
    simp only [spec_l02Ok.l0, if_pos (ilt hi), if_pos (i0 i), if_pos c1, if_pos c2, if_pos c3, r3, r4, r5]
    by_cases g3 : (l3.getD i []).length = 2
    · rw [decide_eq_true g3, Bool.true_and]
      simp only [if_pos (show ((l3.getD i []).length : Int) = 2 by omega)]
      by_cases g4 : (l4.getD i []).length = 2
      · rw [decide_eq_true g4, Bool.true_and]
        simp only [if_pos (show ((l4.getD i []).length : Int) = 2 by omega)]
        refine Ev.bind hl ?_
        cases lst (l2.length : Int) 2 (l5.getD i [])
        · exact no
        · refine Ev.succ ?_
          simp only [spec_l02Ok.j2, Bool.not_true, Bool.false_eq_true, if_false, Bool.true_and]
          rw [Bool.and_assoc]
          refine specRow_ev a b l2 l3 l4 l5 hn ha0 ha1 h4 h5 e3 e4 e5 i 0 hi (by decide) g3 g4 _ (specRow_ev a b l2 l3 l4 l5 hn ha0 ha1 h4 h5 e3 e4 e5 i 1 hi (by decide) g3 g4 _ ?_)
          refine Ev.succ ?_
          simp only [spec_l02Ok.l1, show ¬ (((1 + 1 : Nat) : Int) < 2) by decide, if_false, up1 i (by omega)]
          exact ih
      · rw [decide_eq_false g4, Bool.false_and, Bool.false_and]
        simp only [if_neg (show ¬ ((l4.getD i []).length : Int) = 2 by omega)]
        exact no
    · rw [decide_eq_false g3, Bool.false_and, Bool.false_and]
      simp only [if_neg (show ¬ ((l3.getD i []).length : Int) = 2 by omega)]
      exact no
theorem implOk_l0 : ∀ i, i ≤ l2.length → Ev (fun k => impl_ValidChecker.l0 k (l2.length : Int) i a b l2 l3 l4 l5) (allFromN l2.length (stC a b l2 l3 l4 l5) i) := by
  refine down l2.length ?_ ?_
  · refine Ev.succ ?_
    rw [allFromN_end]
    simp only [impl_ValidChecker.l0, if_neg inlt]
    exact Ev.now _
  · intro i hi ih
    have r3 : rd_L9 l3 (i : Int) = l3.getD i [] := by unfold rd_L9; rw [Int.toNat_natCast]
    have r4 : rd_L7 l4 (i : Int) = l4.getD i [] := by unfold rd_L7; rw [Int.toNat_natCast]
    have r5 : rd_L6 l5 (i : Int) = l5.getD i [] := by unfold rd_L6; rw [Int.toNat_natCast]
    have c1 : (i : Int) < (l3.length : Int) := by omega
    have c2 : (i : Int) < (l4.length : Int) := by omega
    have c3 : (i : Int) < (l5.length : Int) := by omega
    have hsm : (l5.getD i []).length ≤ 1048576 := h5.2 _ (getD_mem l5 i [] (by omega))
    have hl := implList_ev a b l2 l3 l4 l5 (l5.getD i []) 2 hsm (by omega)
    have no : Ev (fun k => impl_ValidChecker.j2 k i (l2.length : Int) i true a b l2 l3 l4 l5) false := by
      refine Ev.succ ?_
      simp only [impl_ValidChecker.j2, if_true]
      exact Ev.now _
    rw [allFromN_step _ _ i hi]
    unfold stC
    refine Ev.succ ?_
    simp only [impl_ValidChecker.l0, if_pos (ilt hi), if_pos (i0 i), if_pos c1, if_pos c2, if_pos c3, r3, r4, r5]
    by_cases g3 : (l3.getD i []).length = 2
    · rw [decide_eq_true g3, Bool.true_and]
      simp only [if_pos (show ((l3.getD i []).length : Int) = 2 by omega)]
      by_cases g4 : (l4.getD i []).length = 2
      · rw [decide_eq_true g4, Bool.true_and]
        simp only [if_pos (show ((l4.getD i []).length : Int) = 2 by omega)]
        refine Ev.bind hl ?_
        cases lst (l2.length : Int) 2 (l5.getD i [])
        · exact no
        · refine Ev.succ ?_
          simp only [impl_ValidChecker.j2, Bool.not_true, Bool.false_eq_true, if_false, Bool.true_and]
          rw [Bool.and_assoc]
          refine implRow_ev a b l2 l3 l4 l5 hn ha0 ha1 h4 h5 e3 e4 e5 i 0 hi (by decide) g3 g4 _ (implRow_ev a b l2 l3 l4 l5 hn ha0 ha1 h4 h5 e3 e4 e5 i 1 hi (by decide) g3 g4 _ ?_)
          refine Ev.succ ?_
          simp only [impl_ValidChecker.l1, show ¬ (((1 + 1 : Nat) : Int) < 2) by decide, if_false, up1 i (by omega)]
          exact ih
      · rw [decide_eq_false g4, Bool.false_and, Bool.false_and]
        simp only [if_neg (show ¬ ((l4.getD i []).length : Int) = 2 by omega)]
        exact no
    · rw [decide_eq_false g3, Bool.false_and, Bool.false_and]
      simp only [if_neg (show ¬ ((l3.getD i []).length : Int) = 2 by omega)]
      exact no
end
theorem specOkC_ev (a b : Int) (l2 : List Bool) (l3 : List (List S92)) (l4 : List (List (List Int))) (l5 : List (List Int)) (h4 : sm2 l4) (h5 : sm1 l5) : Ev (fun k => spec_l02Ok.f k a b l2 l3 l4 l5) (okC a b l2 l3 l4 l5) := by
  have no : Ev (fun k => spec_l02Ok.j0 k (l2.length : Int) true a b l2 l3 l4 l5) false := by
    refine Ev.succ ?_
    simp only [spec_l02Ok.j0, if_true]
    exact Ev.now _
  unfold spec_l02Ok.f okC
  simp only [in_eq, Option.bind_some]
  by_cases c1 : 1 ≤ (l2.length : Int) ∧ (l2.length : Int) ≤ 40
  · have f1 : wrap64 ((l2.length : Int) - 1) = (l2.length : Int) - 1 := w64 (by omega) (by omega)
    rw [decide_eq_true c1, Bool.true_and]
    simp only [if_true, f1]
    clear f1
    by_cases c2 : 1 ≤ a ∧ a ≤ 80
    · rw [decide_eq_true c2, Bool.true_and]
      simp only [if_true]
      unfold inR
      by_cases c3 : 0 ≤ b ∧ b ≤ (l2.length : Int) - 1
      · rw [decide_eq_true c3, Bool.true_and]
        simp only [if_true]
        by_cases e3 : l3.length = l2.length
        · rw [decide_eq_true e3, Bool.true_and]
          simp only [if_pos (show (l3.length : Int) = (l2.length : Int) by omega)]
          by_cases e4 : l4.length = l2.length
          · rw [decide_eq_true e4, Bool.true_and]
            simp only [if_pos (show (l4.length : Int) = (l2.length : Int) by omega)]
            by_cases e5 : l5.length = l2.length
            · rw [decide_eq_true e5, Bool.true_and, ← allFromN_zero]
              rw [show ((l5.length : Int) != (l2.length : Int)) = false by simp; omega]
              refine Ev.succ ?_
              simp only [spec_l02Ok.j0, Bool.false_eq_true, if_false]
              exact specOk_l0 a b l2 l3 l4 l5 (by omega) c2.1 c2.2 h4 h5 e3 e4 e5 0 (by omega)
            · rw [decide_eq_false e5, Bool.false_and]
              rw [show ((l5.length : Int) != (l2.length : Int)) = true by simp; omega]
              exact no
          · rw [decide_eq_false e4, Bool.false_and]
            simp only [if_neg (show ¬ (l4.length : Int) = (l2.length : Int) by omega)]
            exact no
        · rw [decide_eq_false e3, Bool.false_and]
          simp only [if_neg (show ¬ (l3.length : Int) = (l2.length : Int) by omega)]
          exact no
      · rw [decide_eq_false c3, Bool.false_and]
        simp only [Bool.false_eq_true, if_false]
        exact no
    · rw [decide_eq_false c2, Bool.false_and]
      simp only [Bool.false_eq_true, if_false]
      exact no
  · rw [decide_eq_false c1, Bool.false_and]
    simp only [Bool.false_eq_true, if_false]
    exact no
theorem implOkC_ev (a b : Int) (l2 : List Bool) (l3 : List (List S92)) (l4 : List (List (List Int))) (l5 : List (List Int)) (h2 : sm0 l2) (h4 : sm2 l4) (h5 : sm1 l5) : Ev (fun k => impl_ValidChecker.f k a b l2 l3 l4 l5) (okC a b l2 l3 l4 l5) := by
  have no : Ev (fun k => impl_ValidChecker.j0 k (l2.length : Int) true a b l2 l3 l4 l5) false := by
    refine Ev.succ ?_
    simp only [impl_ValidChecker.j0, if_true]
    exact Ev.now _
  have hb : l2.length ≤ 1048576 := h2
  unfold impl_ValidChecker.f okC impl_size_bool.f impl_size_Limpl_Push.f impl_size_LLint64.f impl_size_Lint64.f
  simp only [within_eq, Option.bind_some, isState_eq a b l2 l3 l4 l5 _ hb]
  by_cases c1 : 1 ≤ (l2.length : Int) ∧ (l2.length : Int) ≤ 40
  · rw [decide_eq_true c1, Bool.true_and]
    simp only [if_true]
    by_cases c2 : 1 ≤ a ∧ a ≤ 80
    · rw [decide_eq_true c2, Bool.true_and]
      simp only [if_true]
      cases inR (l2.length : Int) b
      · rw [Bool.false_and]
        simp only [Bool.false_eq_true, if_false]
        exact no
      · rw [Bool.true_and]
        simp only [if_true]
        by_cases e3 : l3.length = l2.length
        · rw [decide_eq_true e3, Bool.true_and]
          simp only [if_pos (show (l3.length : Int) = (l2.length : Int) by omega)]
          by_cases e4 : l4.length = l2.length
          · rw [decide_eq_true e4, Bool.true_and]
            simp only [if_pos (show (l4.length : Int) = (l2.length : Int) by omega)]
            by_cases e5 : l5.length = l2.length
            · rw [decide_eq_true e5, Bool.true_and, ← allFromN_zero]
              rw [show ((l5.length : Int) != (l2.length : Int)) = false by simp; omega]
              refine Ev.succ ?_
              simp only [impl_ValidChecker.j0, Bool.false_eq_true, if_false]
              exact implOk_l0 a b l2 l3 l4 l5 (by omega) c2.1 c2.2 h4 h5 e3 e4 e5 0 (by omega)
            · rw [decide_eq_false e5, Bool.false_and]
              rw [show ((l5.length : Int) != (l2.length : Int)) = true by simp; omega]
              exact no
          · rw [decide_eq_false e4, Bool.false_and]
            simp only [if_neg (show ¬ (l4.length : Int) = (l2.length : Int) by omega)]
            exact no
        · rw [decide_eq_false e3, Bool.false_and]
          simp only [if_neg (show ¬ (l3.length : Int) = (l2.length : Int) by omega)]
          exact no
    · rw [decide_eq_false c2, Bool.false_and]
      simp only [Bool.false_eq_true, if_false]
      exact no
  · rw [decide_eq_false c1, Bool.false_and]
    simp only [Bool.false_eq_true, if_false]
    exact no
end Go.Proofs.Ytlmkkmoammgjdaa.Br
namespace Go.Proofs.Ytlmkkmoammgjdaa.Br
open Go.RowKit Go.Proofs.Ytlmkkmoammgjdaa.P Go.Proofs.YtlmkkmoammgjdaaW.PrintWords Go.Proofs.YtlmkkmoammgjdaaW.PrintLast Go.Proofs.YtlmkkmoammgjdaaW.PrintMore Go.Proofs.Ytlmkkmoammgjdaa.Th
set_option linter.unusedVariables false
set_option linter.unusedSimpArgs false
set_option linter.unusedSectionVars false
theorem sym_at (i : Nat) (hi : i < 6) : sym (bt (⟨#[40, 91, 41, 93, 97, 98]⟩ : ByteArray) (i : Int)) = (i : Int) := by
  have : i = 0 ∨ i = 1 ∨ i = 2 ∨ i = 3 ∨ i = 4 ∨ i = 5 := by omega
  rcases this with rfl | rfl | rfl | rfl | rfl | rfl <;> rfl
theorem own_eq (l : List Int) (h : l.length ≤ 1048576) : spec_l00Own.f l = some l := by
  unfold spec_l00Own.f
  rw [Option.bind_some, if_pos (by simp only [List.length_nil]; omega), List.nil_append]
/-- state and stack behind one symbol -/
def nxt (a0 : Int) (l3 : List (List S92)) (l4 : List (List (List Int))) (l5 : List (List Int)) (x : Nat × List Int) (i : Nat) : Nat × List Int := ((stp a0 l3 l4 l5 x.1 x.2 i).1.toNat, (stp a0 l3 l4 l5 x.1 x.2 i).2)
def runL (a0 : Int) (l3 : List (List S92)) (l4 : List (List (List Int))) (l5 : List (List Int)) : Nat × List Int → List Nat → Nat × List Int
  | x, [] => x
  | x, i :: t => runL a0 l3 l4 l5 (nxt a0 l3 l4 l5 x i) t
theorem runL_end (a0 : Int) (l3 : List (List S92)) (l4 : List (List (List Int))) (l5 : List (List Int)) (i : Nat) : ∀ (l : List Nat) (x : Nat × List Int), runL a0 l3 l4 l5 x (l ++ [i]) = nxt a0 l3 l4 l5 (runL a0 l3 l4 l5 x l) i
  | [], x => rfl
  | j :: t, x => runL_end a0 l3 l4 l5 i t _
def Good (a0 : Int) (l2 : List Bool) (d : Nat) (x : Nat × List Int) : Prop := x.1 < l2.length ∧ Mks a0 x.2 ∧ x.2.length + d ≤ 500
section
variable {a0 a1 : Int} {l2 : List Bool} {l3 : List (List S92)} {l4 : List (List (List Int))} {l5 : List (List Int)}
theorem nxt_good (ck : Ck a0 l2 l3 l4 l5) {d : Nat} {x : Nat × List Int} (h : Good a0 l2 (d + 1) x) (i : Nat) (hi : i < 6) :
    Good a0 l2 d (nxt a0 l3 l4 l5 x i) ∧ stp a0 l3 l4 l5 x.1 x.2 i = (((nxt a0 l3 l4 l5 x i).1 : Int), (nxt a0 l3 l4 l5 x i).2) := by
  obtain ⟨s, st⟩ := x
  obtain ⟨hs, hm, hl⟩ := h
  simp only at hs hm hl
  suffices H : ∃ (t : Nat) (r : List Int), stp a0 l3 l4 l5 s st i = ((t : Int), r) ∧ t < l2.length ∧ Mks a0 r ∧ r.length ≤ st.length + 1 by
    obtain ⟨t, r, e, h1, h2, h3⟩ := H
    unfold nxt Good
    simp only [e, Int.toNat_natCast]
    exact ⟨⟨h1, h2, by omega⟩, trivial⟩
  unfold stp
  by_cases h2 : i < 2
  · rw [if_pos h2]
    obtain ⟨⟨t, e1, h3⟩, h4, h5⟩ := ck.v3 s i hs h2
    refine ⟨t, _, by rw [e1], h3, ?_, by simp⟩
    intro z hz
    rcases List.mem_append.1 hz with h | h
    · exact hm z h
    · rw [List.mem_singleton.1 h]
      exact ⟨((rd_T92 (rd_L9 l3 (s : Int)) (i : Int)).f1).toNat, by omega, by omega⟩
  · rw [if_neg h2]
    by_cases h4 : i < 4
    · rw [if_pos h4]
      by_cases hz : 0 < st.length
      · rw [if_pos hz]
        obtain ⟨z, e1, h5⟩ := hm _ (rd_mem (st.length - 1) (by omega))
        obtain ⟨t, e2, h3⟩ := ck.v4 s (i - 2) z hs (by omega) (by omega)
        rw [e1]
        exact ⟨t, _, by rw [e2], h3, fun z hz => hm z (List.mem_of_mem_take hz), by rw [List.length_take]; omega⟩
      · rw [if_neg hz]
        obtain ⟨z, e1⟩ : ∃ z : Nat, a0 = (z : Int) := ⟨a0.toNat, by have := ck.a; omega⟩
        obtain ⟨t, e2, h3⟩ := ck.v4 s (i - 2) z hs (by omega) (by omega)
        exact ⟨t, _, by rw [e1, e2], h3, fun z hz => by simp at hz, by simp⟩
    · rw [if_neg h4]
      obtain ⟨t, e2, h3⟩ := ck.v5 s (i - 4) hs (by omega)
      exact ⟨t, _, by rw [e2], h3, hm, by omega⟩
theorem specStep_ev (ck : Ck a0 l2 l3 l4 l5) (s : Nat) (hs : s < l2.length) (st : List Int) (hm : Mks a0 st) (hl : st.length ≤ 500) (i : Nat) (hi : i < 6) :
    Ev (fun k => spec_l02Step.f k a0 a1 l2 l3 l4 l5 (s : Int) st (bt (⟨#[40, 91, 41, 93, 97, 98]⟩ : ByteArray) (i : Int))) (stp a0 l3 l4 l5 s st i) := by
  unfold spec_l02Step.f
  have hsy := symbol_ev (bt (⟨#[40, 91, 41, 93, 97, 98]⟩ : ByteArray) (i : Int))
  rw [sym_at i hi] at hsy
  refine Ev.bind hsy ?_
  have m0 : (0 : Int) ≤ (s : Int) := by omega
  have m3 : (s : Int) < (l3.length : Int) := by have := ck.n3; omega
  have m4 : (s : Int) < (l4.length : Int) := by have := ck.n4; omega
  have m5 : (s : Int) < (l5.length : Int) := by have := ck.n5; omega
  have i0 : (0 : Int) ≤ (i : Int) := by omega
  unfold stp
  by_cases h2 : i < 2
  · simp only [if_pos h2, if_pos (show (i : Int) < 2 by omega), if_pos m0, if_pos m3, if_pos i0, if_pos (show (i : Int) < ((rd_L9 l3 (s : Int)).length : Int) by rw [ck.r3 s hs]; omega), own_eq st (by omega), Option.bind_some, List.length_cons, List.length_nil, if_pos (show st.length + (0 + 1) < 17592186044416 by omega)]
    exact Ev.now _
  · simp only [if_neg h2, if_neg (show ¬ (i : Int) < 2 by omega)]
    by_cases h4 : i < 4
    · simp only [if_pos h4, if_pos (show (i : Int) < 4 by omega)]
      have w2 : wrap64 ((i : Int) - 2) = ((i - 2 : Nat) : Int) := by rw [w64 (by omega) (by omega)]; omega
      have q2 : (0 : Int) ≤ ((i - 2 : Nat) : Int) := by omega
      have q3 : ((i - 2 : Nat) : Int) < ((rd_L7 l4 (s : Int)).length : Int) := by rw [ck.r4 s hs]; omega
      have l6 := ck.r6 s (i - 2) hs (by omega)
      refine Ev.succ ?_
      simp only [spec_l02Step.j0]
      by_cases hz : 0 < st.length
      · have e0 : ((st.length : Int) == 0) = false := beq_eq_false_iff_ne.mpr (by omega)
        have wl : wrap64 ((st.length : Int) - 1) = ((st.length - 1 : Nat) : Int) := by rw [w64 (by omega) (by omega)]; omega
        obtain ⟨z, e1, h5⟩ := hm _ (rd_mem (st.length - 1) (by omega))
        have r1 : (0 : Int) ≤ ((st.length - 1 : Nat) : Int) := by omega
        have r2 : ((st.length - 1 : Nat) : Int) < (st.length : Int) := by omega
        have r3 : (0 : Int) ≤ (z : Int) := by omega
        have r4 : (z : Int) < ((rd_L6 (rd_L7 l4 (s : Int)) ((i - 2 : Nat) : Int)).length : Int) := by omega
        have r5 : ((st.length - 1 : Nat) : Int) ≤ (st.length : Int) := by omega
        simp only [if_pos hz, e0, Bool.false_eq_true, if_false, w2, wl, e1, if_pos m0, if_pos m4, if_pos q2, if_pos q3, if_pos r1, if_pos r2, if_pos r3, if_pos r4, if_pos r5, Int.toNat_natCast, own_eq (st.take (st.length - 1)) (by rw [List.length_take]; omega), Option.bind_some, if_pos (show (i : Int) < 4 by omega)]
        exact Ev.now _
      · have e0 : ((st.length : Int) == 0) = true := beq_iff_eq.mpr (by omega)
        have r3 : (0 : Int) ≤ a0 := by have := ck.a; omega
        have r4 : a0 < ((rd_L6 (rd_L7 l4 (s : Int)) ((i - 2 : Nat) : Int)).length : Int) := by omega
        simp only [if_neg hz, e0, if_true, w2, if_pos m0, if_pos m4, if_pos q2, if_pos q3, if_pos r3, if_pos r4]
        exact Ev.now _
    · simp only [if_neg h4, if_neg (show ¬ (i : Int) < 4 by omega)]
      have w2 : wrap64 ((i : Int) - 4) = ((i - 4 : Nat) : Int) := by rw [w64 (by omega) (by omega)]; omega
      have q2 : (0 : Int) ≤ ((i - 4 : Nat) : Int) := by omega
      have q3 : ((i - 4 : Nat) : Int) < ((rd_L6 l5 (s : Int)).length : Int) := by rw [ck.r5 s hs]; omega
      refine Ev.succ ?_
      simp only [spec_l02Step.j0, Bool.false_eq_true, if_false, if_neg (show ¬ (i : Int) < 4 by omega), w2, if_pos m0, if_pos m5, if_pos q2, if_pos q3]
      exact Ev.now _
/-- A word, told by its symbols' numbers. -/
def wdB (l : List Nat) : ByteArray := ⟨(l.map fun i => (#[40, 91, 41, 93, 97, 98] : Array UInt8).getD i 0).toArray⟩
theorem wdB_size (l : List Nat) : (wdB l).size = l.length := by
  unfold wdB
  show (l.map fun i => (#[40, 91, 41, 93, 97, 98] : Array UInt8).getD i 0).toArray.size = l.length
  simp
theorem wdB_bt (l : List Nat) (j : Nat) (hj : j < l.length) (h6 : l[j] < 6) : bt (wdB l) (j : Int) = bt (⟨#[40, 91, 41, 93, 97, 98]⟩ : ByteArray) ((l[j] : Nat) : Int) := by
  have h1 : (j : Int).toNat < (wdB l).size := by rw [wdB_size, Int.toNat_natCast]; exact hj
  have h2 : ((l[j] : Nat) : Int).toNat < (⟨#[40, 91, 41, 93, 97, 98]⟩ : ByteArray).size := by rw [Int.toNat_natCast]; exact h6
  rw [← bt_at _ _ h1, ← bt_at _ _ h2]
  congr 2
  show (l.map fun i => (#[40, 91, 41, 93, 97, 98] : Array UInt8).getD i 0).toArray[(j : Int).toNat]'_ = (#[40, 91, 41, 93, 97, 98] : Array UInt8)[((l[j] : Nat) : Int).toNat]'_
  simp only [Int.toNat_natCast, List.getElem_toArray, List.getElem_map]
  exact Array.getD_eq_getD_getElem? .. |>.trans (by rw [Array.getElem?_eq_getElem (show l[j] < (#[40, 91, 41, 93, 97, 98] : Array UInt8).size from h6)]; rfl)
theorem wdB_end (l : List Nat) (i : Nat) (hi : i < 6) : wdB l ++ (⟨#[40, 91, 41, 93, 97, 98]⟩ : ByteArray).extract i (i + 1) = wdB (l ++ [i]) := by
  have : i = 0 ∨ i = 1 ∨ i = 2 ∨ i = 3 ∨ i = 4 ∨ i = 5 := by omega
  have e : (⟨#[40, 91, 41, 93, 97, 98]⟩ : ByteArray).extract i (i + 1) = wdB [i] := by
    rcases this with rfl | rfl | rfl | rfl | rfl | rfl <;> rfl
  rw [e]
  apply ByteArray.ext
  rw [ByteArray.data_append]
  unfold wdB
  simp
theorem specGo_ev (ck : Ck a0 l2 l3 l4 l5) (l : List Nat) (h6 : ∀ i ∈ l, i < 6) (hl : l.length ≤ 100) : ∀ j, j ≤ l.length → ∀ x, Good a0 l2 (l.length - j) x →
    Ev (fun k => spec_l02Go.l0 k (x.1 : Int) x.2 (wdB l) (j : Int) a0 a1 l2 l3 l4 l5) (((runL a0 l3 l4 l5 x (l.drop j)).1 : Int), (runL a0 l3 l4 l5 x (l.drop j)).2) := by
  refine down l.length ?_ ?_
  · intro x hx
    refine Ev.succ ?_
    simp only [spec_l02Go.l0, wdB_size, if_neg (Int.lt_irrefl (l.length : Int)), List.drop_length, runL]
    exact Ev.now _
  · intro j hj ih x hx
    have hg : Good a0 l2 (l.length - (j + 1) + 1) x := by rw [show l.length - (j + 1) + 1 = l.length - j by omega]; exact hx
    have h6j := h6 l[j] (List.getElem_mem _)
    obtain ⟨hn, he⟩ := nxt_good ck hg l[j] h6j
    refine Ev.succ ?_
    simp only [spec_l02Go.l0, wdB_size, if_pos (ilt hj), if_pos (i0 j), wdB_bt l j hj h6j]
    refine Ev.bind (specStep_ev ck x.1 hx.1 x.2 hx.2.1 (by have := hx.2.2; omega) l[j] h6j) ?_
    rw [he, List.drop_eq_getElem_cons hj, runL]
    simp only [up1 j (by omega)]
    exact ih _ hn
theorem specTakes_ev (ck : Ck a0 l2 l3 l4 l5) (s : Nat) (hs : s < l2.length) (l : List Nat) (h6 : ∀ i ∈ l, i < 6) (hl : l.length ≤ 100) (hr : (runL a0 l3 l4 l5 (s, []) l).1 < l2.length) :
    Ev (fun k => spec_l02Takes.f k a0 (s : Int) l2 l3 l4 l5 (wdB l)) (rdOf false l2 ((runL a0 l3 l4 l5 (s, []) l).1 : Int)) := by
  unfold spec_l02Takes.f spec_l02Go.f
  have h := specGo_ev (a1 := (s : Int)) ck l h6 hl 0 (Nat.zero_le _) (s, []) ⟨hs, fun z hz => absurd hz (by simp), by simp; omega⟩
  rw [List.drop_zero] at h
  refine Ev.bind h ?_
  simp only [if_pos (i0 (runL a0 l3 l4 l5 (s, []) l).1), if_pos (ilt hr)]
  exact Ev.now _
theorem runL_good (ck : Ck a0 l2 l3 l4 l5) : ∀ (l : List Nat) (h6 : ∀ i ∈ l, i < 6) (d : Nat) (x : Nat × List Int), Good a0 l2 (l.length + d) x → Good a0 l2 d (runL a0 l3 l4 l5 x l)
  | [], _, d, x, h => by simpa [runL] using h
  | i :: t, h6, d, x, h => runL_good ck t (fun j hj => h6 j (List.mem_cons_of_mem _ hj)) d _ (nxt_good ck (d := t.length + d) (by rw [List.length_cons] at h; rw [show t.length + d + 1 = t.length + 1 + d by omega]; exact h) i (h6 i List.mem_cons_self)).1
/-- The words of a length, in the order in which they are written down. -/
def WL : Nat → List (List Nat)
  | 0 => [[]]
  | n + 1 => (WL n).flatMap fun l => (List.range 6).map fun i => l ++ [i]
theorem WL_mem : ∀ n, ∀ l ∈ WL n, l.length = n ∧ ∀ i ∈ l, i < 6
  | 0, l, h => by
    have : l = [] := by simpa [WL] using h
    subst this
    exact ⟨rfl, fun i hi => by simp at hi⟩
  | n + 1, l, h => by
    rw [WL, List.mem_flatMap] at h
    obtain ⟨m, hm, h⟩ := h
    obtain ⟨i, hi, rfl⟩ := List.mem_map.1 h
    obtain ⟨h1, h2⟩ := WL_mem n m hm
    refine ⟨by simp [h1], fun j hj => ?_⟩
    rcases List.mem_append.1 hj with h | h
    · exact h2 j h
    · rw [List.mem_singleton.1 h]; exact List.mem_range.1 hi
theorem WL_len : ∀ n, (WL n).length = 6 ^ n
  | 0 => rfl
  | n + 1 => by
    have : ∀ L : List (List Nat), (L.flatMap fun l => (List.range 6).map fun i => l ++ [i]).length = L.length * 6 := by
      intro L
      induction L with
      | nil => rfl
      | cons a t ih => rw [List.flatMap_cons, List.length_append, ih, List.length_cons, List.length_map, List.length_range]; omega
    rw [WL, this, WL_len n, Nat.pow_succ]
/-- one word's six longer ones, from symbol i on -/
def ext (w : ByteArray) (i : Nat) : List ByteArray := (List.range' i (6 - i)).map fun q => w ++ (⟨#[40, 91, 41, 93, 97, 98]⟩ : ByteArray).extract q (q + 1)
theorem specWords_l2 (n : Int) (X : List ByteArray) (m : Int) (j : Nat) (hj : j < X.length) (hw : ∀ w ∈ X, w.size ≤ 1000) (R : List ByteArray) : ∀ i, i ≤ 6 → ∀ o : List ByteArray, o.length ≤ 1000000 + i → Ev (fun k => spec_l03Words.l1 k n X m (o ++ ext (rdOf ByteArray.empty X (j : Int)) i) (wrap64 ((j : Int) + 1))) R → Ev (fun k => spec_l03Words.l2 k n X m o (j : Int) (i : Int)) R := by
  refine down 6 ?_ ?_
  · intro o ho h
    refine Ev.succ ?_
    simp only [spec_l03Words.l2]
    rw [show ext (rdOf ByteArray.empty X (j : Int)) 6 = [] from rfl, List.append_nil] at h
    exact h
  · intro i hi ih o ho h
    refine Ev.succ ?_
    have hs : (rdOf ByteArray.empty X (j : Int)).size ≤ 1000 := by
      refine hw _ ?_
      unfold rdOf
      rw [Int.toNat_natCast, List.getD_eq_getElem?_getD, List.getElem?_eq_getElem hj]
      exact List.getElem_mem _
    have he : ((⟨#[40, 91, 41, 93, 97, 98]⟩ : ByteArray).extract i (i + 1)).size ≤ 6 := by
      rw [ByteArray.size_extract]
      exact Nat.le_trans (Nat.sub_le _ _) (Nat.min_le_right _ _)
    simp only [spec_l03Words.l2, up1 i (by omega), Int.toNat_natCast]
    simp only [if_pos (show (i : Int) < 6 by omega), if_pos (i0 j), if_pos (ilt hj), if_pos (i0 i), if_pos (show (i : Int) ≤ ((i + 1 : Nat) : Int) by omega), if_pos (show ((i + 1 : Nat) : Int) ≤ 6 by omega)]
    simp only [if_pos (show (rdOf ByteArray.empty X (j : Int)).size + ((⟨#[40, 91, 41, 93, 97, 98]⟩ : ByteArray).extract i (i + 1)).size ≤ 9223372036854775807 by omega), if_pos (show o.length < 8796093022208 by omega)]
    refine ih _ (by rw [List.length_append, List.length_singleton]; omega) ?_
    rw [List.append_assoc]
    have : [rdOf ByteArray.empty X (j : Int) ++ (⟨#[40, 91, 41, 93, 97, 98]⟩ : ByteArray).extract i (i + 1)] ++ ext (rdOf ByteArray.empty X (j : Int)) (i + 1) = ext (rdOf ByteArray.empty X (j : Int)) i := by
      unfold ext
      rw [show 6 - i = (6 - (i + 1)) + 1 by omega, List.range'_succ, List.map_cons]
      rfl
    rw [this]
    exact h
theorem specWords_l1 (n : Int) (X : List ByteArray) (m : Int) (hX : X.length ≤ 10000) (hw : ∀ w ∈ X, w.size ≤ 1000) (R : List ByteArray) : ∀ j, j ≤ X.length → ∀ o : List ByteArray, o.length ≤ 6 * j → Ev (fun k => spec_l03Words.l0 k n (o ++ (X.drop j).flatMap fun w => ext w 0) (wrap64 (m + 1))) R → Ev (fun k => spec_l03Words.l1 k n X m o (j : Int)) R := by
  refine down X.length ?_ ?_
  · intro o ho h
    refine Ev.succ ?_
    simp only [spec_l03Words.l1, if_neg (Int.lt_irrefl (X.length : Int))]
    rw [List.drop_length, List.flatMap_nil, List.append_nil] at h
    exact h
  · intro j hj ih o ho h
    refine Ev.succ ?_
    simp only [spec_l03Words.l1, if_pos (ilt hj)]
    refine specWords_l2 n X m j hj hw R 0 (by omega) o (by omega) ?_
    simp only [up1 j (by omega)]
    have e1 : (ext (rdOf ByteArray.empty X (j : Int)) 0).length = 6 := by unfold ext; simp
    refine ih _ (by rw [List.length_append, e1]; omega) ?_
    rw [List.drop_eq_getElem_cons hj, List.flatMap_cons, ← List.append_assoc] at h
    have e2 : rdOf ByteArray.empty X (j : Int) = X[j] := by
      unfold rdOf
      rw [Int.toNat_natCast, List.getD_eq_getElem?_getD, List.getElem?_eq_getElem hj]
      rfl
    rw [e2]
    exact h
theorem ext_wd (l : List Nat) : ext (wdB l) 0 = ((List.range 6).map fun i => l ++ [i]).map wdB := by
  unfold ext
  rw [List.map_map, List.range_eq_range']
  refine List.map_congr_left fun q hq => ?_
  have : q < 6 := by have := List.mem_range'_1.1 hq; omega
  exact wdB_end l q this
theorem WL_succ (n : Nat) : ((WL n).map wdB).flatMap (fun w => ext w 0) = (WL (n + 1)).map wdB := by
  rw [WL, List.map_flatMap, List.flatMap_map]
  congr 1
  funext l
  exact ext_wd l
theorem specWords_ev (n : Nat) (hn : n ≤ 5) : Ev (fun k => spec_l03Words.f k (n : Int)) ((WL n).map wdB) := by
  unfold spec_l03Words.f
  have key : ∀ m, m ≤ n → Ev (fun k => spec_l03Words.l0 k (n : Int) ((WL m).map wdB) (m : Int)) ((WL n).map wdB) := by
    refine down n ?_ ?_
    · refine Ev.succ ?_
      simp only [spec_l03Words.l0, if_neg (Int.lt_irrefl (n : Int))]
      exact Ev.now _
    · intro m hm ih
      refine Ev.succ ?_
      simp only [spec_l03Words.l0, if_pos (ilt hm)]
      refine specWords_l1 (n : Int) ((WL m).map wdB) (m : Int) ?_ ?_ _ 0 (Nat.zero_le _) [] (by simp) ?_
      · rw [List.length_map, WL_len]
        exact Nat.le_trans (Nat.pow_le_pow_right (by decide) (show m ≤ 5 by omega)) (by decide)
      · intro w hw
        obtain ⟨l, hl, rfl⟩ := List.mem_map.1 hw
        rw [wdB_size, (WL_mem m l hl).1]
        omega
      · rw [List.drop_zero, List.nil_append, WL_succ, up1 m (by omega)]
        exact ih
  exact key 0 (Nat.zero_le _)
/-- a sum over a list -/
def tot {α : Type} (g : α → Nat) : List α → Nat
  | [] => 0
  | a :: t => g a + tot g t
theorem tot_append {α : Type} (g : α → Nat) : ∀ l m : List α, tot g (l ++ m) = tot g l + tot g m
  | [], m => by simp [tot]
  | a :: t, m => by
    show g a + tot g (t ++ m) = g a + tot g t + tot g m
    rw [tot_append g t m]
    omega
theorem tot_flat {α β : Type} (g : β → Nat) (f : α → List β) : ∀ l : List α, tot g (l.flatMap f) = tot (fun a => tot g (f a)) l
  | [] => rfl
  | a :: t => by rw [List.flatMap_cons, tot_append, tot_flat g f t]; rfl
theorem tot_congr {α : Type} {g h : α → Nat} : ∀ l : List α, (∀ a ∈ l, g a = h a) → tot g l = tot h l
  | [], _ => rfl
  | a :: t, e => by
    show g a + tot g t = h a + tot h t
    rw [e a List.mem_cons_self, tot_congr t fun b hb => e b (List.mem_cons_of_mem _ hb)]
/-- a symbol ahead of what is counted -/
def up6 {α : Type} (nx : α → Nat → α) (p : α → Nat) (x : α) : Nat := sumTo (fun i => p (nx x i)) 6
def upn {α : Type} (nx : α → Nat → α) : Nat → (α → Nat) → α → Nat
  | 0, p => p
  | n + 1, p => upn nx n (up6 nx p)
theorem upn_end {α : Type} (nx : α → Nat → α) : ∀ n p, upn nx n (up6 nx p) = up6 nx (upn nx n p)
  | 0, p => rfl
  | n + 1, p => upn_end nx n (up6 nx p)
theorem tot_six {α : Type} (g : α → Nat) (f : Nat → α) : tot g ((List.range 6).map f) = sumTo (fun i => g (f i)) 6 := by
  show g (f 0) + (g (f 1) + (g (f 2) + (g (f 3) + (g (f 4) + (g (f 5) + 0))))) = 0 + g (f 0) + g (f 1) + g (f 2) + g (f 3) + g (f 4) + g (f 5)
  omega
theorem tot_run (a0 : Int) (l3 : List (List S92)) (l4 : List (List (List Int))) (l5 : List (List Int)) (x : Nat × List Int) : ∀ n (p : Nat × List Int → Nat), tot (fun l => p (runL a0 l3 l4 l5 x l)) (WL n) = upn (nxt a0 l3 l4 l5) n p x
  | 0, p => rfl
  | n + 1, p => by
    rw [WL, tot_flat]
    refine Eq.trans (tot_congr _ fun l hl => ?_) (tot_run a0 l3 l4 l5 x n (up6 (nxt a0 l3 l4 l5) p))
    rw [tot_six]
    simp only [runL_end]
    rfl
theorem cnt_run (a0 : Int) (l2 : List Bool) (l3 : List (List S92)) (l4 : List (List (List Int))) (l5 : List (List Int)) : ∀ n (x : Nat × List Int), cnt a0 l2 l3 l4 l5 n x.1 x.2 = upn (nxt a0 l3 l4 l5) n (fun y => if rdOf false l2 (y.1 : Int) = true then 1 else 0) x
  | 0, x => rfl
  | n + 1, x => by
    rw [upn, upn_end]
    show sumTo (fun i => cnt a0 l2 l3 l4 l5 n (nxt a0 l3 l4 l5 x i).1 (nxt a0 l3 l4 l5 x i).2) 6 = sumTo (fun i => upn (nxt a0 l3 l4 l5) n (fun y => if rdOf false l2 (y.1 : Int) = true then 1 else 0) (nxt a0 l3 l4 l5 x i)) 6
    congr 1
    funext i
    exact cnt_run a0 l2 l3 l4 l5 n _
theorem specCount_l0 (ck : Ck a0 l2 l3 l4 l5) (s : Nat) (hs : s < l2.length) (W : List (List Nat)) (hW : W.length ≤ 10000) (hw : ∀ l ∈ W, l.length ≤ 100 ∧ ∀ i ∈ l, i < 6) : ∀ j, j ≤ W.length → ∀ c : Nat, c ≤ j →
    Ev (fun k => spec_CountTaken.l0 k (W.map wdB) (c : Int) (j : Int) a0 (s : Int) l2 l3 l4 l5) (((c + tot (fun l => if rdOf false l2 ((runL a0 l3 l4 l5 (s, []) l).1 : Int) = true then 1 else 0) (W.drop j) : Nat) : Int), 0) := by
  refine down W.length ?_ ?_
  · intro c hc
    refine Ev.succ ?_
    simp only [spec_CountTaken.l0, List.length_map, if_neg (Int.lt_irrefl (W.length : Int)), List.drop_length, tot, Nat.add_zero]
    exact Ev.now _
  · intro j hj ih c hc
    refine Ev.succ ?_
    have e2 : rdOf ByteArray.empty (W.map wdB) (j : Int) = wdB W[j] := by
      unfold rdOf
      rw [Int.toNat_natCast, List.getD_eq_getElem?_getD, List.getElem?_map, List.getElem?_eq_getElem hj]
      rfl
    obtain ⟨h1, h2⟩ := hw W[j] (List.getElem_mem _)
    have hg := runL_good ck W[j] h2 0 (s, []) ⟨hs, fun z hz => absurd hz (by simp), by simp; omega⟩
    simp only [spec_CountTaken.l0, List.length_map, if_pos (ilt hj), if_pos (i0 j), e2]
    refine Ev.bind (specTakes_ev ck s hs W[j] h2 h1 hg.1) ?_
    rw [List.drop_eq_getElem_cons hj, tot]
    simp only [up1 j (by omega), up1 c (by omega)]
    by_cases ht : rdOf false l2 ((runL a0 l3 l4 l5 (s, []) W[j]).1 : Int) = true
    · simp only [if_pos ht]
      rw [← Nat.add_assoc]
      exact ih (c + 1) (by omega)
    · simp only [if_neg ht, Nat.zero_add]
      exact ih c (by omega)
theorem specCount_ev (ck : Ck a0 l2 l3 l4 l5) (s : Nat) (hs : s < l2.length) (n : Nat) (hn : n ≤ 5) :
    Ev (fun k => (spec_l03Words.f k (n : Int)).bind fun t => spec_CountTaken.l0 k t 0 0 a0 (s : Int) l2 l3 l4 l5) (((cnt a0 l2 l3 l4 l5 n s [] : Nat) : Int), 0) := by
  refine Ev.bind (specWords_ev n hn) ?_
  have h := specCount_l0 ck s hs (WL n) (by rw [WL_len]; exact Nat.le_trans (Nat.pow_le_pow_right (by decide) hn) (by decide)) (fun l hl => ⟨by rw [(WL_mem n l hl).1]; omega, (WL_mem n l hl).2⟩) 0 (Nat.zero_le _) 0 (Nat.zero_le _)
  rw [List.drop_zero, Nat.zero_add] at h
  have e := tot_run a0 l3 l4 l5 (s, []) n (fun y => if rdOf false l2 (y.1 : Int) = true then 1 else 0)
  rw [← cnt_run] at e
  rw [e] at h
  exact h
end
theorem count_both (a b : Int) (l2 : List Bool) (l3 : List (List S92)) (l4 : List (List (List Int))) (l5 : List (List Int)) (x : Int) (h2 : sm0 l2) (h4 : sm2 l4) (h5 : sm1 l5) :
    ∃ v : Int × Int, Ev (fun k => spec_CountTaken.f k a b l2 l3 l4 l5 x) v ∧ Ev (fun k => impl_CountTaken.f k a b l2 l3 l4 l5 x) v := by
  have hS := specOkC_ev a b l2 l3 l4 l5 h4 h5
  have hI := implOkC_ev a b l2 l3 l4 l5 h2 h4 h5
  have hin := in_eq x 0 5
  unfold spec_CountTaken.f impl_CountTaken.f
  by_cases hc : okC a b l2 l3 l4 l5 = true
  · rw [hc] at hS hI
    by_cases hx : 0 ≤ x ∧ x ≤ 5
    · rw [decide_eq_true hx] at hin
      have hp := okK_parts (hc : okK a b l2 l3 l4 l5 = true)
      have ck := ck_ofK (hc : okK a b l2 l3 l4 l5 = true)
      obtain ⟨n, rfl⟩ : ∃ n : Nat, x = (n : Int) := ⟨x.toNat, by omega⟩
      obtain ⟨s, rfl⟩ : ∃ n : Nat, b = (n : Int) := ⟨b.toNat, by omega⟩
      refine ⟨(((cnt a l2 l3 l4 l5 n s [] : Nat) : Int), 0), Ev.bind hS ?_, Ev.bind hI ?_⟩
      · simp only [if_true, hin, Option.bind_some]
        exact specCount_ev ck s (by omega) n (by omega)
      · have hk : okK a (s : Int) l2 l3 l4 l5 = true := hc
        simp only [if_true, if_pos hx, hk, Int.toNat_natCast]
        exact Ev.now _
    · rw [decide_eq_false hx] at hin
      refine ⟨(0, 2), Ev.bind hS ?_, Ev.bind hI ?_⟩
      · simp only [if_true, hin, Option.bind_some, Bool.false_eq_true, if_false]
        exact Ev.now _
      · simp only [if_true, if_neg hx]
        exact Ev.now _
  · have hf : okC a b l2 l3 l4 l5 = false := by simpa using hc
    rw [hf] at hS hI
    refine ⟨(0, 1), Ev.bind hS ?_, Ev.bind hI ?_⟩
    · simp only [Bool.false_eq_true, if_false]
      exact Ev.now _
    · simp only [Bool.false_eq_true, if_false]
      exact Ev.now _
end Go.Proofs.Ytlmkkmoammgjdaa.Br
namespace Go.Proofs.Ytlmkkmoammgjdaa.Pure
open Go.RowKit Go.Proofs.Ytlmkkmoammgjdaa.P Go.Proofs.YtlmkkmoammgjdaaW.PrintWords Go.Proofs.YtlmkkmoammgjdaaW.PrintLast Go.Proofs.YtlmkkmoammgjdaaW.PrintMore Go.Proofs.Ytlmkkmoammgjdaa.Br Go.Proofs.Ytlmkkmoammgjdaa.Th
set_option linter.unusedVariables false
set_option linter.unusedSimpArgs false

theorem sm1_map {α β : Type} (f : α → β) (l : List (List α)) (h : sm1 l) : sm1 (l.map (List.map f)) := by
  refine ⟨by simpa using h.1, fun x hx => ?_⟩
  obtain ⟨y, hy, rfl⟩ := List.mem_map.1 hx
  have := h.2 y hy
  unfold sm0 at this ⊢
  simpa using this
theorem FnExactCountTaken : laws_FnExactCountTaken.Pure := by
  intro a b l2 l3 l4 l5 x wa wb h2 h3 h4 h5 wx
  refine Ev.rounds ?_
  unfold laws_FnExactCountTaken.f
  obtain ⟨r, hr, hr2⟩ := laws_szChecker_ev a b l2 l3 l4 l5 1048576 (by omega) (by omega) h2.1 ⟨h3.1, fun x hx => (h3.2 x hx).1⟩ ⟨h4.1, fun x hx => ⟨(h4.2 x hx).1, fun y hy => ((h4.2 x hx).2 y hy).1⟩⟩ ⟨h5.1, fun x hx => (h5.2 x hx).1⟩
  refine Ev.bind hr ?_
  by_cases n0 : r < 0
  · simp only [if_pos n0]; exact Ev.now _
  simp only [if_neg n0]
  rcases hr2 with hr2 | hr2
  · exact absurd hr2 n0
  obtain ⟨_, _, s2, s3, s4, s5⟩ := hr2
  have t := laws_toChecker_ev a b l2 l3 l4 l5 s2 s3 s4 s5
  have s3' := sm1_map cPush l3 s3
  obtain ⟨v, hS, hI⟩ := count_both a b l2 (l3.map (List.map cPush)) l4 l5 x s2 s4 s5
  refine Ev.bind t (Ev.bind hS (Ev.bind t (Ev.bind hI (Ev.succ ?_))))
  simp only [if_true, bne_self_eq_false, laws_FnExactCountTaken.j0, Bool.false_eq_true, if_false]
  refine Ev.bind t (Ev.bind (laws_eqChecker_ev a b l2 _ l4 l5 s2 s3' s4 s5) ?_)
  simp only [if_true]
  exact Ev.now _
end Go.Proofs.Ytlmkkmoammgjdaa.Pure
namespace Go.Proofs.Ytlmkkmoammgjdaa.fnExactCountTaken
open Go.ChangeShapes Go.WideShapes Go.ChangeAt Go.RowKit Go.Proofs.YtlmkkmoammgjdaaW.PrintWords Go.Proofs.YtlmkkmoammgjdaaW.PrintLast Go.Proofs.Ytlmkkmoammgjdaa.P
open Go.ChangeMaps (open_string shut_string)
set_option linter.unusedVariables false
def Of (P : Program) (t : TypeId) {α : Type} (d : Kd α) (ok : α → Prop) : Prop :=
 ∀ (H : Type) (enc : TypeId × Value → H) (W : World) (n : Nat) (cs : List Value) (x : DataW H × List MemPlace), DataW.trod enc P W 0 (fun _ => true) true n t cs = some x → ∃ v, d.K W v cs ∧ ok v
def OfFs (P : Program) (off : Nat) (fs : List Field) {α : Type} (d : Kd α) (ok : α → Prop) : Prop :=
 ∀ (H : Type) (enc : TypeId × Value → H) (W : World) (n : Nat) (cs : List Value), cs.length = off + d.sz →
  (∀ f ∈ fs, ∃ y, DataW.trod enc P W 0 (fun _ => true) true n f.type ((cs.drop f.offset).take (P.cellsOf f.type)) = some y) → ∃ v, d.K W v (cs.drop off) ∧ ok v
section
variable {P : Program} {t : TypeId}
theorem of_int {k : IntKind} (ht : P.underlying t = some (.int k)) : Of P t (Kd.int k) (fun n => (Lit.int k n).wf = true) := by
 intro H enc W n cs x h
 obtain ⟨v, rfl, _, hw⟩ := DataW.trod_int ht h
 exact ⟨v, rfl, hw⟩
theorem of_bool (ht : P.underlying t = some .bool) : Of P t Kd.bool (fun _ => True) := by
 intro H enc W n cs x h
 obtain ⟨v, rfl, _⟩ := DataW.trod_bool ht h
 exact ⟨v, rfl, trivial⟩
theorem of_iso {α β : Type} {d : Kd α} {f : β → α} {ok : α → Prop} (h : Of P t d ok) (g : α → β) (hg : ∀ y, f (g y) = y) : Of P t (Kd.iso d f) (fun x => ok (f x)) := by
 intro H enc W n cs x hx
 obtain ⟨v, hK, ho⟩ := h H enc W n cs x hx
 exact ⟨g v, by show d.K W (f (g v)) cs; rw [hg]; exact hK, by show ok (f (g v)); rw [hg]; exact ho⟩
theorem of_slice {e : TypeId} {α : Type} {d : Kd α} {ok : α → Prop} (ht : P.underlying t = some (.slice e)) (hC : P.cellsOf e = d.sz) (he : Of P e d ok) :
  Of P t (Kd.slice e d) (fun l => l.length ≤ maxLen ∧ ∀ x ∈ l, ok x) := by
 intro H enc W fuel cs x h
 rcases Go.Deep.open_slice ht h with ⟨rfl, _⟩ | ⟨a, len, cap, m, n, D, Pl, rfl, _, hl, hm, hmm, _, hi⟩
 ·exact ⟨[], ⟨none, 0, rfl, Nat.le_refl _, Kd.C_nil _ _⟩, by simp, by simp⟩
 ·have hle : len ≤ m := by rw [hmm]; simpa using hl
  have key : ∀ q, q ≤ len → ∃ l : List α, l.length = q ∧ ∀ j p, l[j]? = some p → ∃ cs', W.cells? 0 (a.add (j * d.sz)) d.sz = some cs' ∧ d.K W p cs' ∧ ok p := by
   intro q
   induction q with
   | zero => exact fun _ => ⟨[], rfl, fun j p hj => by simp at hj⟩
   | succ q ih =>
    intro hq
    obtain ⟨l, hll, hp⟩ := ih (by omega)
    obtain ⟨cs', h1, h2⟩ := hi q (by omega)
    rw [hC] at h1
    obtain ⟨v, hK, ho⟩ := he H enc W n cs' _ h2
    refine ⟨l ++ [v], by simp [hll], fun j p hj => ?_⟩
    by_cases hjl : j < l.length
    ·rw [List.getElem?_append_left hjl] at hj
     exact hp j p hj
    ·have hj2 : j = l.length := by
      have := (List.getElem?_eq_some_iff.1 hj).1
      simp at this
      omega
     subst hj2
     simp at hj
     subst hj
     exact ⟨cs', by rw [hll]; exact h1, hK, ho⟩
  obtain ⟨l, hll, hp⟩ := key len (Nat.le_refl _)
  have hlm : l.length ≤ maxLen := by rw [hll]; exact Nat.le_trans hl hm
  refine ⟨l, ⟨some a, cap, by rw [hll], by omega, ⟨rfl, hlm, fun _ => ⟨a, rfl, fun j p hj => ?_⟩⟩⟩, hlm, fun p hpm => ?_⟩
  ·obtain ⟨cs', h1, hK, _⟩ := hp j p hj
   obtain ⟨_, hlen, hat⟩ := World.cells?_some h1
   refine ⟨cs', hlen, hK, fun i u hu => ?_⟩
   have hlt : i < d.sz := by rw [← hlen]; exact (List.getElem?_eq_some_iff.1 hu).1
   rw [← Go.Deep.add_add, hat i hlt, hu]
  ·obtain ⟨j, hj⟩ := List.getElem?_of_mem hpm
   obtain ⟨_, _, _, ho⟩ := hp j p hj
   exact ho
theorem fs_one {f : Field} {off : Nat} {α : Type} {d : Kd α} {ok : α → Prop} (ho : f.offset = off) (hC : P.cellsOf f.type = d.sz) (h : Of P f.type d ok) : OfFs P off [f] d ok := by
 intro H enc W n cs hl hf
 obtain ⟨y, hy⟩ := hf f (by simp)
 rw [ho, hC, List.take_of_length_le (by simp; omega)] at hy
 exact h H enc W n _ y hy
theorem fs_more {f : Field} {fs : List Field} {off : Nat} {α β : Type} {d : Kd α} {d2 : Kd β} {ok : α → Prop} {ok2 : β → Prop} (ho : f.offset = off) (hC : P.cellsOf f.type = d.sz) (h : Of P f.type d ok) (h2 : OfFs P (off + d.sz) fs d2 ok2) :
  OfFs P off (f :: fs) (Kd.pair d d2) (fun p => ok p.1 ∧ ok2 p.2) := by
 intro H enc W n cs hl hf
 have hl' : cs.length = off + d.sz + d2.sz := hl.trans (Nat.add_assoc _ _ _).symm
 obtain ⟨y, hy⟩ := hf f (by simp)
 rw [ho, hC] at hy
 obtain ⟨v, hK, hv⟩ := h H enc W n _ y hy
 obtain ⟨v2, hK2, hv2⟩ := h2 H enc W n cs hl' (fun g hg => hf g (List.mem_cons_of_mem _ hg))
 refine ⟨(v, v2), ⟨(cs.drop off).take d.sz, cs.drop (off + d.sz), ?_, hK, hK2⟩, hv, hv2⟩
 rw [← List.drop_drop, List.take_append_drop]
theorem of_struct {fs : Array Field} {α : Type} {d : Kd α} {ok : α → Prop} (ht : P.underlying t = some (.struct fs)) (hC : P.cellsOf t = d.sz) (h : OfFs P 0 fs.toList d ok) : Of P t d ok := by
 intro H enc W fuel cs x hx
 obtain ⟨xs, n, _, _, hlen, hxl, hf⟩ := DataW.trod_struct ht hx
 refine h H enc W n cs (by omega) (fun f hfm => ?_)
 obtain ⟨j, hj⟩ := List.getElem?_of_mem hfm
 have hj2 : fs[j]? = some f := by simpa using hj
 have hlt : j < xs.length := by rw [hxl]; exact (Array.getElem?_eq_some_iff.1 hj2).1
 exact ⟨_, (hf j f hj2).trans (List.getElem?_eq_getElem hlt)⟩
end
theorem own : ownKnob Try.prog.godebug = none := by kernel_rfl
theorem laidOut : laidOutB Try.prog = true := by kernel_rfl
theorem of2 : Of Try.prog 2 (Kd.int .i64) (fun n : Int => (Lit.int .i64 n).wf = true) := of_int Try.underlying2
theorem of4 : Of Try.prog 4 Kd.bool (fun _ : Bool => True) := of_bool Try.underlying4
theorem of25 : Of Try.prog 25 (Kd.slice 4 Kd.bool) (fun l : List Bool => l.length ≤ maxLen ∧ ∀ x ∈ l, (fun _ : Bool => True) x) := of_slice Try.underlying25 (by kernel_rfl) of4
theorem of112 : Of Try.prog 112 k112 (fun x : S112 => (fun p : ((Int) × (Int)) => (fun n : Int => (Lit.int .i64 n).wf = true) p.1 ∧ (fun n : Int => (Lit.int .i64 n).wf = true) p.2) (x.f0, x.f1)) := of_iso (f := fun x : S112 => (x.f0, x.f1)) (of_struct Try.underlying112 (by kernel_rfl) (fs_more (ok := (fun n : Int => (Lit.int .i64 n).wf = true)) (ok2 := (fun n : Int => (Lit.int .i64 n).wf = true)) (by rfl) (by kernel_rfl) of2 (fs_one (by rfl) (by kernel_rfl) of2))) (fun y => ⟨y.1, y.2⟩) (fun _ => rfl)
theorem of87 : Of Try.prog 87 (Kd.slice 112 k112) (fun l : List (S112) => l.length ≤ maxLen ∧ ∀ x ∈ l, (fun x : S112 => (fun p : ((Int) × (Int)) => (fun n : Int => (Lit.int .i64 n).wf = true) p.1 ∧ (fun n : Int => (Lit.int .i64 n).wf = true) p.2) (x.f0, x.f1)) x) := of_slice Try.underlying87 (by kernel_rfl) of112
theorem of26 : Of Try.prog 26 (Kd.slice 87 (Kd.slice 112 k112)) (fun l : List (List (S112)) => l.length ≤ maxLen ∧ ∀ x ∈ l, (fun l : List (S112) => l.length ≤ maxLen ∧ ∀ x ∈ l, (fun x : S112 => (fun p : ((Int) × (Int)) => (fun n : Int => (Lit.int .i64 n).wf = true) p.1 ∧ (fun n : Int => (Lit.int .i64 n).wf = true) p.2) (x.f0, x.f1)) x) x) := of_slice Try.underlying26 (by kernel_rfl) of87
theorem of60 : Of Try.prog 60 (Kd.slice 2 (Kd.int .i64)) (fun l : List Int => l.length ≤ maxLen ∧ ∀ x ∈ l, (fun n : Int => (Lit.int .i64 n).wf = true) x) := of_slice Try.underlying60 (by kernel_rfl) of2
theorem of28 : Of Try.prog 28 (Kd.slice 60 (Kd.slice 2 (Kd.int .i64))) (fun l : List (List Int) => l.length ≤ maxLen ∧ ∀ x ∈ l, (fun l : List Int => l.length ≤ maxLen ∧ ∀ x ∈ l, (fun n : Int => (Lit.int .i64 n).wf = true) x) x) := of_slice Try.underlying28 (by kernel_rfl) of60
theorem of27 : Of Try.prog 27 (Kd.slice 28 (Kd.slice 60 (Kd.slice 2 (Kd.int .i64)))) (fun l : List (List (List Int)) => l.length ≤ maxLen ∧ ∀ x ∈ l, (fun l : List (List Int) => l.length ≤ maxLen ∧ ∀ x ∈ l, (fun l : List Int => l.length ≤ maxLen ∧ ∀ x ∈ l, (fun n : Int => (Lit.int .i64 n).wf = true) x) x) x) := of_slice Try.underlying27 (by kernel_rfl) of28
theorem of30t : Of Try.prog 30 (Kd.pair (Kd.int .i64) (Kd.pair (Kd.int .i64) (Kd.pair (Kd.slice 4 Kd.bool) (Kd.pair (Kd.slice 87 (Kd.slice 112 k112)) (Kd.pair (Kd.slice 28 (Kd.slice 60 (Kd.slice 2 (Kd.int .i64)))) (Kd.slice 60 (Kd.slice 2 (Kd.int .i64)))))))) (fun p : ((Int) × (((Int) × (((List Bool) × (((List (List (S112))) × (((List (List (List Int))) × (List (List Int))))))))))) => (fun n : Int => (Lit.int .i64 n).wf = true) p.1 ∧ (fun p : ((Int) × (((List Bool) × (((List (List (S112))) × (((List (List (List Int))) × (List (List Int))))))))) => (fun n : Int => (Lit.int .i64 n).wf = true) p.1 ∧ (fun p : ((List Bool) × (((List (List (S112))) × (((List (List (List Int))) × (List (List Int))))))) => (fun l : List Bool => l.length ≤ maxLen ∧ ∀ x ∈ l, (fun _ : Bool => True) x) p.1 ∧ (fun p : ((List (List (S112))) × (((List (List (List Int))) × (List (List Int))))) => (fun l : List (List (S112)) => l.length ≤ maxLen ∧ ∀ x ∈ l, (fun l : List (S112) => l.length ≤ maxLen ∧ ∀ x ∈ l, (fun x : S112 => (fun p : ((Int) × (Int)) => (fun n : Int => (Lit.int .i64 n).wf = true) p.1 ∧ (fun n : Int => (Lit.int .i64 n).wf = true) p.2) (x.f0, x.f1)) x) x) p.1 ∧ (fun p : ((List (List (List Int))) × (List (List Int))) => (fun l : List (List (List Int)) => l.length ≤ maxLen ∧ ∀ x ∈ l, (fun l : List (List Int) => l.length ≤ maxLen ∧ ∀ x ∈ l, (fun l : List Int => l.length ≤ maxLen ∧ ∀ x ∈ l, (fun n : Int => (Lit.int .i64 n).wf = true) x) x) x) p.1 ∧ (fun l : List (List Int) => l.length ≤ maxLen ∧ ∀ x ∈ l, (fun l : List Int => l.length ≤ maxLen ∧ ∀ x ∈ l, (fun n : Int => (Lit.int .i64 n).wf = true) x) x) p.2) p.2) p.2) p.2) p.2) := by
 refine of_struct Try.underlying30 (by kernel_rfl) ?_
 exact (fs_more (ok := (fun n : Int => (Lit.int .i64 n).wf = true)) (ok2 := (fun p : ((Int) × (((List Bool) × (((List (List (S112))) × (((List (List (List Int))) × (List (List Int))))))))) => (fun n : Int => (Lit.int .i64 n).wf = true) p.1 ∧ (fun p : ((List Bool) × (((List (List (S112))) × (((List (List (List Int))) × (List (List Int))))))) => (fun l : List Bool => l.length ≤ maxLen ∧ ∀ x ∈ l, (fun _ : Bool => True) x) p.1 ∧ (fun p : ((List (List (S112))) × (((List (List (List Int))) × (List (List Int))))) => (fun l : List (List (S112)) => l.length ≤ maxLen ∧ ∀ x ∈ l, (fun l : List (S112) => l.length ≤ maxLen ∧ ∀ x ∈ l, (fun x : S112 => (fun p : ((Int) × (Int)) => (fun n : Int => (Lit.int .i64 n).wf = true) p.1 ∧ (fun n : Int => (Lit.int .i64 n).wf = true) p.2) (x.f0, x.f1)) x) x) p.1 ∧ (fun p : ((List (List (List Int))) × (List (List Int))) => (fun l : List (List (List Int)) => l.length ≤ maxLen ∧ ∀ x ∈ l, (fun l : List (List Int) => l.length ≤ maxLen ∧ ∀ x ∈ l, (fun l : List Int => l.length ≤ maxLen ∧ ∀ x ∈ l, (fun n : Int => (Lit.int .i64 n).wf = true) x) x) x) p.1 ∧ (fun l : List (List Int) => l.length ≤ maxLen ∧ ∀ x ∈ l, (fun l : List Int => l.length ≤ maxLen ∧ ∀ x ∈ l, (fun n : Int => (Lit.int .i64 n).wf = true) x) x) p.2) p.2) p.2) p.2)) (by rfl) (by kernel_rfl) of2 (fs_more (ok := (fun n : Int => (Lit.int .i64 n).wf = true)) (ok2 := (fun p : ((List Bool) × (((List (List (S112))) × (((List (List (List Int))) × (List (List Int))))))) => (fun l : List Bool => l.length ≤ maxLen ∧ ∀ x ∈ l, (fun _ : Bool => True) x) p.1 ∧ (fun p : ((List (List (S112))) × (((List (List (List Int))) × (List (List Int))))) => (fun l : List (List (S112)) => l.length ≤ maxLen ∧ ∀ x ∈ l, (fun l : List (S112) => l.length ≤ maxLen ∧ ∀ x ∈ l, (fun x : S112 => (fun p : ((Int) × (Int)) => (fun n : Int => (Lit.int .i64 n).wf = true) p.1 ∧ (fun n : Int => (Lit.int .i64 n).wf = true) p.2) (x.f0, x.f1)) x) x) p.1 ∧ (fun p : ((List (List (List Int))) × (List (List Int))) => (fun l : List (List (List Int)) => l.length ≤ maxLen ∧ ∀ x ∈ l, (fun l : List (List Int) => l.length ≤ maxLen ∧ ∀ x ∈ l, (fun l : List Int => l.length ≤ maxLen ∧ ∀ x ∈ l, (fun n : Int => (Lit.int .i64 n).wf = true) x) x) x) p.1 ∧ (fun l : List (List Int) => l.length ≤ maxLen ∧ ∀ x ∈ l, (fun l : List Int => l.length ≤ maxLen ∧ ∀ x ∈ l, (fun n : Int => (Lit.int .i64 n).wf = true) x) x) p.2) p.2) p.2)) (by rfl) (by kernel_rfl) of2 (fs_more (ok := (fun l : List Bool => l.length ≤ maxLen ∧ ∀ x ∈ l, (fun _ : Bool => True) x)) (ok2 := (fun p : ((List (List (S112))) × (((List (List (List Int))) × (List (List Int))))) => (fun l : List (List (S112)) => l.length ≤ maxLen ∧ ∀ x ∈ l, (fun l : List (S112) => l.length ≤ maxLen ∧ ∀ x ∈ l, (fun x : S112 => (fun p : ((Int) × (Int)) => (fun n : Int => (Lit.int .i64 n).wf = true) p.1 ∧ (fun n : Int => (Lit.int .i64 n).wf = true) p.2) (x.f0, x.f1)) x) x) p.1 ∧ (fun p : ((List (List (List Int))) × (List (List Int))) => (fun l : List (List (List Int)) => l.length ≤ maxLen ∧ ∀ x ∈ l, (fun l : List (List Int) => l.length ≤ maxLen ∧ ∀ x ∈ l, (fun l : List Int => l.length ≤ maxLen ∧ ∀ x ∈ l, (fun n : Int => (Lit.int .i64 n).wf = true) x) x) x) p.1 ∧ (fun l : List (List Int) => l.length ≤ maxLen ∧ ∀ x ∈ l, (fun l : List Int => l.length ≤ maxLen ∧ ∀ x ∈ l, (fun n : Int => (Lit.int .i64 n).wf = true) x) x) p.2) p.2)) (by rfl) (by kernel_rfl) of25 (fs_more (ok := (fun l : List (List (S112)) => l.length ≤ maxLen ∧ ∀ x ∈ l, (fun l : List (S112) => l.length ≤ maxLen ∧ ∀ x ∈ l, (fun x : S112 => (fun p : ((Int) × (Int)) => (fun n : Int => (Lit.int .i64 n).wf = true) p.1 ∧ (fun n : Int => (Lit.int .i64 n).wf = true) p.2) (x.f0, x.f1)) x) x)) (ok2 := (fun p : ((List (List (List Int))) × (List (List Int))) => (fun l : List (List (List Int)) => l.length ≤ maxLen ∧ ∀ x ∈ l, (fun l : List (List Int) => l.length ≤ maxLen ∧ ∀ x ∈ l, (fun l : List Int => l.length ≤ maxLen ∧ ∀ x ∈ l, (fun n : Int => (Lit.int .i64 n).wf = true) x) x) x) p.1 ∧ (fun l : List (List Int) => l.length ≤ maxLen ∧ ∀ x ∈ l, (fun l : List Int => l.length ≤ maxLen ∧ ∀ x ∈ l, (fun n : Int => (Lit.int .i64 n).wf = true) x) x) p.2)) (by rfl) (by kernel_rfl) of26 (fs_more (ok := (fun l : List (List (List Int)) => l.length ≤ maxLen ∧ ∀ x ∈ l, (fun l : List (List Int) => l.length ≤ maxLen ∧ ∀ x ∈ l, (fun l : List Int => l.length ≤ maxLen ∧ ∀ x ∈ l, (fun n : Int => (Lit.int .i64 n).wf = true) x) x) x)) (ok2 := (fun l : List (List Int) => l.length ≤ maxLen ∧ ∀ x ∈ l, (fun l : List Int => l.length ≤ maxLen ∧ ∀ x ∈ l, (fun n : Int => (Lit.int .i64 n).wf = true) x) x)) (by rfl) (by kernel_rfl) of27 (fs_one (by rfl) (by kernel_rfl) of28))))))
set_option maxRecDepth 100000 in
set_option maxHeartbeats 4000000 in
theorem lifted (os : Os) (started : os.Started) (H : Type) (enc : TypeId × Value → H) :
  ReturnsInHanded {} Try.checked os 4 .any (Rows.fnExactCountTakenSpec.pre6 enc Try.prog Try.f4 Rows.fnExactCountTakenRow.domain false) (Rows.fnExactCountTakenSpec.post enc Try.prog Try.f4 false true false false) := by
 refine returnsInHanded_of_change_sized (C := Try.checked) own started (by kernel_rfl) Try.func4
  (ChangeSpec.witness6 (enc := enc) (C := Try.checked) false ⟨#[], #[.agg #[.int .i64 0, .int .i64 0, .slice none 0 0, .slice none 0 0, .slice none 0 0, .slice none 0 0], .int .i64 0], []⟩ 8 (by kernel_rfl) (by kernel_rfl) (by kernel_rfl) (by kernel_rfl)) ?_
 intro W base args ds gs before hval0 hW hcnd hsz0 _
 have hval : ∀ (j : Nat) t v, Try.f4.params[j]? = some t → args[j]? = some v → Value.okWide Try.prog W .any base t v := hval0
 have hW' := hW
 obtain ⟨p, q, hA0, hV, rfl, hfz, hnd⟩ := hW
 have hA : DataW.TrodAll enc Try.prog W 0 (fun _ => true) true Try.f4.params.toList args.toList ds p := hA0
 rw [Try.params4] at hA hval
 obtain ⟨v0, vs0, d0, ds0, p0, q0, hargs, rfl, rfl, h0, r0⟩ := trodAll_cons hA
 obtain ⟨v1, vs1, d1, ds1, p1, q1, rfl, rfl, rfl, h1, r1⟩ := trodAll_cons r0
 obtain ⟨rfl, rfl, rfl⟩ := trodAll_nil r1
 obtain rfl : args = #[v0, v1] := by cases args; simp_all
 obtain ⟨rfl, rfl⟩ := trodVars_none hV
 have k0 := h0
 have lt0 : ∀ x ∈ p0, x.block < W.heap.size := by obtain ⟨m, hm⟩ := k0; exact DataW.trod_lt m _ _ _ hm
 obtain ⟨fu0, hf0⟩ := h0
 obtain ⟨x0, hK0, ho0⟩ := of30t H enc W _ _ _ hf0
 obtain ⟨cs0, rfl, _⟩ := okWide_struct Try.underlying30 (hval 0 30 v0 rfl rfl)
 obtain ⟨_, _, hcs0, rfl, ⟨_, _, rfl, rfl, ⟨_, _, rfl, ⟨A0_2, c0_2, rfl, hc0_2, hr0_2⟩, ⟨_, _, rfl, ⟨A0_3, c0_3, rfl, hc0_3, hr0_3⟩, ⟨_, _, rfl, ⟨A0_4, c0_4, rfl, hc0_4, hr0_4⟩, ⟨A0_5, c0_5, rfl, hc0_5, hr0_5⟩⟩⟩⟩⟩⟩ := hK0
 obtain rfl : cs0 = #[.int .i64 ((x0).1), .int .i64 (((x0).2).1), .slice A0_2 (((x0).2).2).1.length c0_2, .slice A0_3 ((((x0).2).2).2).1.length c0_3, .slice A0_4 (((((x0).2).2).2).2).1.length c0_4, .slice A0_5 (((((x0).2).2).2).2).2.length c0_5] := by
  have hcs_ : cs0.toList = _ := hcs0
  exact Array.toList_inj.1 (hcs_.trans rfl)
 obtain ⟨a1, rfl, rfl, rfl, w1⟩ := open_int Try.underlying2 (hval 1 2 v1 rfl rfl) h1
 clear hA0 hval0 hsz0
 obtain ⟨k, hk⟩ := Pure.FnExactCountTaken ((x0).1) (((x0).2).1) ((((x0).2).2).1) (((((x0).2).2).2).1) ((((((x0).2).2).2).2).1) ((((((x0).2).2).2).2).2) a1 ho0.1 ho0.2.1 ho0.2.2.1 ho0.2.2.2.1 ho0.2.2.2.2.1 ho0.2.2.2.2.2 w1
 refine (P.laws_FnExactCountTaken.calls k ((x0).1) (((x0).2).1) A0_2 c0_2 ((((x0).2).2).1) A0_3 c0_3 (((((x0).2).2).2).1) A0_4 c0_4 ((((((x0).2).2).2).2).1) A0_5 c0_5 ((((((x0).2).2).2).2).2) a1 true W hr0_2 hc0_2 hr0_3 hc0_3 hr0_4 hc0_4 hr0_5 hc0_5 hk).mono fun e W' hp => ?_
 obtain ⟨he, bel0⟩ := hp
 have bel : Below W.heap.size W W' := bel0
 subst he
 exact ⟨_, rfl, _, _, _, [], _, [], hW', trodAll_mk1 (shut_bool Try.underlying4 _), (trodAll_cons_mk (Below.trod laidOut (by kernel_rfl) (oT (by kernel_rfl)) k0 bel lt0) (trodAll_cons_mk (shut_int Try.underlying2 w1) trodAll_mk0)), rfl, bel.frame _, fun h => by cases h⟩
end Go.Proofs.Ytlmkkmoammgjdaa.fnExactCountTaken
