/- Texts that this law leans on, several in one; written by programs of these sessions (print, wip/deep, gather.py). -/
import Derived.Test.YtepkfigcnnfoaaaOc1
set_option linter.unusedVariables false
set_option linter.unusedSimpArgs false
set_option linter.unusedSectionVars false
set_option maxHeartbeats 8000000
set_option maxRecDepth 100000
namespace Go.Proofs.Ytepkfigcnnfoaaa.P
open Go.RowKit Go.Proofs.YtepkfigcnnfoaaaW.PrintWords Go.Proofs.YtepkfigcnnfoaaaW.PrintLast Go.Proofs.YtepkfigcnnfoaaaW.PrintMore
attribute [local go_sem] Zk Zm Zu Zv Zg Zh Zn Zp
def laws_eqChecker.f (k : Nat) (a0_0 : Int) (a0_1 : Int) (l0_2 : List Bool) (l0_3 : List (List (S47))) (l0_4 : List (List (List Int))) (l0_5 : List (List Int)) (a1_0 : Int) (a1_1 : Int) (l1_2 : List Bool) (l1_3 : List (List (S47))) (l1_4 : List (List (List Int))) (l1_5 : List (List Int)) : Option (Bool) := if a0_0 = a1_0 then (if a0_1 = a1_1 then ((laws_eqBoolS.f k l0_2 l1_2).bind fun t165 => (if t165 = true then ((laws_eqPushSS.f k l0_3 l1_3).bind fun t166 => (if t166 = true then ((laws_eqInt64SSS.f k l0_4 l1_4).bind fun t167 => (if t167 = true then ((laws_eqInt64SS.f k l0_5 l1_5).bind fun t168 => (if t168 = true then (some true) else (some false))) else (some false))) else (some false))) else (some false))) else (some false)) else (some false)
theorem laws_eqChecker.calls (k : Nat) (a0_0 : Int) (a0_1 : Int) (A0_2 : Option Addr) (c0_2 : Nat) (l0_2 : List Bool) (A0_3 : Option Addr) (c0_3 : Nat) (l0_3 : List (List (S47))) (A0_4 : Option Addr) (c0_4 : Nat) (l0_4 : List (List (List Int))) (A0_5 : Option Addr) (c0_5 : Nat) (l0_5 : List (List Int)) (a1_0 : Int) (a1_1 : Int) (A1_2 : Option Addr) (c1_2 : Nat) (l1_2 : List Bool) (A1_3 : Option Addr) (c1_3 : Nat) (l1_3 : List (List (S47))) (A1_4 : Option Addr) (c1_4 : Nat) (l1_4 : List (List (List Int))) (A1_5 : Option Addr) (c1_5 : Nat) (l1_5 : List (List Int)) (r : Bool) (w : World) (hr0_2 : Kd.C Kd.bool w A0_2 l0_2.length l0_2) (hc0_2 : l0_2.length ≤ c0_2) (hr0_3 : Kd.C (Kd.slice 47 k47) w A0_3 l0_3.length l0_3) (hc0_3 : l0_3.length ≤ c0_3) (hr0_4 : Kd.C (Kd.slice 49 (Kd.slice 2 (Kd.int .i64))) w A0_4 l0_4.length l0_4) (hc0_4 : l0_4.length ≤ c0_4) (hr0_5 : Kd.C (Kd.slice 2 (Kd.int .i64)) w A0_5 l0_5.length l0_5) (hc0_5 : l0_5.length ≤ c0_5) (hr1_2 : Kd.C Kd.bool w A1_2 l1_2.length l1_2) (hc1_2 : l1_2.length ≤ c1_2) (hr1_3 : Kd.C (Kd.slice 47 k47) w A1_3 l1_3.length l1_3) (hc1_3 : l1_3.length ≤ c1_3) (hr1_4 : Kd.C (Kd.slice 49 (Kd.slice 2 (Kd.int .i64))) w A1_4 l1_4.length l1_4) (hc1_4 : l1_4.length ≤ c1_4) (hr1_5 : Kd.C (Kd.slice 2 (Kd.int .i64)) w A1_5 l1_5.length l1_5) (hc1_5 : l1_5.length ≤ c1_5) (h : laws_eqChecker.f k a0_0 a0_1 l0_2 l0_3 l0_4 l0_5 a1_0 a1_1 l1_2 l1_3 l1_4 l1_5 = some r) :
  Calls Try.prog 12 #[.agg #[.int .i64 a0_0, .int .i64 a0_1, .slice A0_2 l0_2.length c0_2, .slice A0_3 l0_3.length c0_3, .slice A0_4 l0_4.length c0_4, .slice A0_5 l0_5.length c0_5], .agg #[.int .i64 a1_0, .int .i64 a1_1, .slice A1_2 l1_2.length c1_2, .slice A1_3 l1_3.length c1_3, .slice A1_4 l1_4.length c1_4, .slice A1_5 l1_5.length c1_5]] w fun e w' => e = .returned (.bool r) ∧ Below w.heap.size w w' := by
 have hu27 := Try.underlying27
 have HR0_2 := AZ.mk hr0_2
 have HC0_2 := AZ.mk hc0_2
 clear hr0_2 hc0_2
 have HR0_3 := AZ.mk hr0_3
 have HC0_3 := AZ.mk hc0_3
 clear hr0_3 hc0_3
 have HR0_4 := AZ.mk hr0_4
 have HC0_4 := AZ.mk hc0_4
 clear hr0_4 hc0_4
 have HR0_5 := AZ.mk hr0_5
 have HC0_5 := AZ.mk hc0_5
 clear hr0_5 hc0_5
 have HR1_2 := AZ.mk hr1_2
 have HC1_2 := AZ.mk hc1_2
 clear hr1_2 hc1_2
 have HR1_3 := AZ.mk hr1_3
 have HC1_3 := AZ.mk hc1_3
 clear hr1_3 hc1_3
 have HR1_4 := AZ.mk hr1_4
 have HC1_4 := AZ.mk hc1_4
 clear hr1_4 hc1_4
 have HR1_5 := AZ.mk hr1_5
 have HC1_5 := AZ.mk hc1_5
 clear hr1_5 hc1_5
 have HB := AZ.mk (Below.refl w.heap.size w)
 have H : (if a0_0 = a1_0 then (if a0_1 = a1_1 then ((laws_eqBoolS.f k l0_2 l1_2).bind fun t165 => (if t165 = true then ((laws_eqPushSS.f k l0_3 l1_3).bind fun t166 => (if t166 = true then ((laws_eqInt64SSS.f k l0_4 l1_4).bind fun t167 => (if t167 = true then ((laws_eqInt64SS.f k l0_5 l1_5).bind fun t168 => (if t168 = true then (some true) else (some false))) else (some false))) else (some false))) else (some false))) else (some false)) else (some false)) = some r := h
 clear h
 by_cases c3 : a0_0 = a1_0
 rotate_left
 ·rw [if_neg c3] at H
  have c3b0 : (a0_0 == a1_0) = false := beq_eq_false_iff_ne.mpr c3
  have c3b1 : (a0_0 != a1_0) = true := bne_iff_ne.mpr c3
  obtain rfl := oJ H
  go_enter Try.func12, Try.ntmps12
  go_wp2_with (first | ((with_reducible refine Zb (N := 2) rfl ?_); refine Zc ?hg (N := 2) ?hd (cs := #[.int .i64 a0_0, .int .i64 a0_1, .slice A0_2 l0_2.length c0_2, .slice A0_3 l0_3.length c0_3, .slice A0_4 l0_4.length c0_4, .slice A0_5 l0_5.length c0_5]) (t := 27) ?hr ?_; (case hd => rfl); (case hg => rfl); (case hr => first | (go_simp; done) | (go_simp; rfl)); intro gb163 hg w53 hbox hb; have n0_ := AZ.mk (pT (by repeat (first | (with_reducible first | exact HB.out | apply pA | apply pN | apply pD) | exact HB.out)) hb); have n1_ := AZ.mk (hbox); have n2_ := AZ.mk ((by rw [hg]; exact (pZ (by repeat (first | (with_reducible first | exact HB.out | apply pA | apply pN | apply pD) | exact HB.out))) : w.heap.size ≤ gb163)); have n3_ := AZ.mk ((by rw [hg]; exact (pZ (by repeat (first | (with_reducible first | exact HB.out | apply pA | apply pN | apply pD) | exact HB.out))) : w.heap.size ≤ gb163)); clear HB; have HB := n0_; have BK163 := n1_; have GW163 := n2_; have GE163 := n3_; clear n0_ n1_ n2_ n3_; clear hb hbox hg) | ((with_reducible refine Zb (N := 3) rfl ?_); refine Zc ?hg (N := 3) ?hd (cs := #[.int .i64 a1_0, .int .i64 a1_1, .slice A1_2 l1_2.length c1_2, .slice A1_3 l1_3.length c1_3, .slice A1_4 l1_4.length c1_4, .slice A1_5 l1_5.length c1_5]) (t := 27) ?hr ?_; (case hd => rfl); (case hg => rfl); (case hr => first | (go_simp; done) | (go_simp; rfl)); intro gb164 hg w54 hbox hb; have n0_ := AZ.mk (bb_ (g := gb163) (o := .cells #[.int .i64 a0_0, .int .i64 a0_1, .slice A0_2 l0_2.length c0_2, .slice A0_3 l0_3.length c0_3, .slice A0_4 l0_4.length c0_4, .slice A0_5 l0_5.length c0_5] 27 (0, 0)) (by (with_reducible repeat (first | refine bn_ ?_ _ | refine bd_ ?_ | refine ba_ ?_ _)); exact BK163.out) hb); have n1_ := AZ.mk (pT (by repeat (first | (with_reducible first | exact HB.out | apply pA | apply pN | apply pD | refine pS ?_ GE163.out) | exact HB.out)) hb); have n2_ := AZ.mk (hbox); have n3_ := AZ.mk ((by rw [hg]; exact (pZ (by repeat (first | (with_reducible first | exact HB.out | apply pA | apply pN | apply pD | refine pS ?_ GE163.out) | exact HB.out))) : w.heap.size ≤ gb164)); have n4_ := AZ.mk ((by rw [hg]; exact (pZ (by repeat (first | (with_reducible first | exact HB.out | apply pA | apply pN | apply pD | refine pS ?_ GE163.out) | exact HB.out))) : w.heap.size ≤ gb164)); have n5_ := AZ.mk ((by rw [hg]; exact nL (Yb (g := gb163) (o := .cells #[.int .i64 a0_0, .int .i64 a0_1, .slice A0_2 l0_2.length c0_2, .slice A0_3 l0_3.length c0_3, .slice A0_4 l0_4.length c0_4, .slice A0_5 l0_5.length c0_5] 27 (0, 0)) (by (with_reducible repeat (first | refine bn_ ?_ _ | refine bd_ ?_ | refine ba_ ?_ _)); exact BK163.out)) : gb163 ≠ gb164)); have n6_ := AZ.mk ((by rw [hg]; exact nG (Yb (g := gb163) (o := .cells #[.int .i64 a0_0, .int .i64 a0_1, .slice A0_2 l0_2.length c0_2, .slice A0_3 l0_3.length c0_3, .slice A0_4 l0_4.length c0_4, .slice A0_5 l0_5.length c0_5] 27 (0, 0)) (by (with_reducible repeat (first | refine bn_ ?_ _ | refine bd_ ?_ | refine ba_ ?_ _)); exact BK163.out)) : gb164 ≠ gb163)); clear BK163; clear HB; have BK163 := n0_; have HB := n1_; have BK164 := n2_; have GW164 := n3_; have GE164 := n4_; have NB163_164 := n5_; have NB164_163 := n6_; clear n0_ n1_ n2_ n3_ n4_ n5_ n6_; clear hb hbox hg; have hnb55 := NB163_164.out; have hnc55 := NB164_163.out; obtain ⟨hcz56_0, hcz56_1, hcz56_2, hcz56_3, hcz56_4, hcz56_5⟩ := c6 BK163.out; obtain ⟨hfz56_0, hfz56_1, hfz56_2, hfz56_3, hfz56_4, hfz56_5⟩ := f6 BK163.out; obtain ⟨hcz57_0, hcz57_1, hcz57_2, hcz57_3, hcz57_4, hcz57_5⟩ := c6 BK164.out; obtain ⟨hfz57_0, hfz57_1, hfz57_2, hfz57_3, hfz57_4, hfz57_5⟩ := f6 BK164.out))
  go_ret
  exact ⟨by first | rfl | (simp [Zd, Ze] <;> rfl) | (simp [*, Zd, Ze] <;> rfl), by repeat (first | (with_reducible first | exact HB.out | apply pA | apply pN | apply pD | refine pS ?_ GE163.out | refine pS ?_ GE164.out) | exact HB.out)⟩
 rw [if_pos c3] at H
 have c3b0 : (a0_0 == a1_0) = true := beq_iff_eq.mpr c3
 have c3b1 : (a0_0 != a1_0) = false := bne_eq_false_iff_eq.mpr c3
 clear c3
 by_cases c4 : a0_1 = a1_1
 rotate_left
 ·rw [if_neg c4] at H
  have c4b0 : (a0_1 == a1_1) = false := beq_eq_false_iff_ne.mpr c4
  have c4b1 : (a0_1 != a1_1) = true := bne_iff_ne.mpr c4
  obtain rfl := oJ H
  go_enter Try.func12, Try.ntmps12
  go_wp2_with (first | ((with_reducible refine Zb (N := 2) rfl ?_); refine Zc ?hg (N := 2) ?hd (cs := #[.int .i64 a0_0, .int .i64 a0_1, .slice A0_2 l0_2.length c0_2, .slice A0_3 l0_3.length c0_3, .slice A0_4 l0_4.length c0_4, .slice A0_5 l0_5.length c0_5]) (t := 27) ?hr ?_; (case hd => rfl); (case hg => rfl); (case hr => first | (go_simp; done) | (go_simp; rfl)); intro gb163 hg w48 hbox hb; have n0_ := AZ.mk (pT (by repeat (first | (with_reducible first | exact HB.out | apply pA | apply pN | apply pD) | exact HB.out)) hb); have n1_ := AZ.mk (hbox); have n2_ := AZ.mk ((by rw [hg]; exact (pZ (by repeat (first | (with_reducible first | exact HB.out | apply pA | apply pN | apply pD) | exact HB.out))) : w.heap.size ≤ gb163)); have n3_ := AZ.mk ((by rw [hg]; exact (pZ (by repeat (first | (with_reducible first | exact HB.out | apply pA | apply pN | apply pD) | exact HB.out))) : w.heap.size ≤ gb163)); clear HB; have HB := n0_; have BK163 := n1_; have GW163 := n2_; have GE163 := n3_; clear n0_ n1_ n2_ n3_; clear hb hbox hg) | ((with_reducible refine Zb (N := 3) rfl ?_); refine Zc ?hg (N := 3) ?hd (cs := #[.int .i64 a1_0, .int .i64 a1_1, .slice A1_2 l1_2.length c1_2, .slice A1_3 l1_3.length c1_3, .slice A1_4 l1_4.length c1_4, .slice A1_5 l1_5.length c1_5]) (t := 27) ?hr ?_; (case hd => rfl); (case hg => rfl); (case hr => first | (go_simp; done) | (go_simp; rfl)); intro gb164 hg w49 hbox hb; have n0_ := AZ.mk (bb_ (g := gb163) (o := .cells #[.int .i64 a0_0, .int .i64 a0_1, .slice A0_2 l0_2.length c0_2, .slice A0_3 l0_3.length c0_3, .slice A0_4 l0_4.length c0_4, .slice A0_5 l0_5.length c0_5] 27 (0, 0)) (by (with_reducible repeat (first | refine bn_ ?_ _ | refine bd_ ?_ | refine ba_ ?_ _)); exact BK163.out) hb); have n1_ := AZ.mk (pT (by repeat (first | (with_reducible first | exact HB.out | apply pA | apply pN | apply pD | refine pS ?_ GE163.out) | exact HB.out)) hb); have n2_ := AZ.mk (hbox); have n3_ := AZ.mk ((by rw [hg]; exact (pZ (by repeat (first | (with_reducible first | exact HB.out | apply pA | apply pN | apply pD | refine pS ?_ GE163.out) | exact HB.out))) : w.heap.size ≤ gb164)); have n4_ := AZ.mk ((by rw [hg]; exact (pZ (by repeat (first | (with_reducible first | exact HB.out | apply pA | apply pN | apply pD | refine pS ?_ GE163.out) | exact HB.out))) : w.heap.size ≤ gb164)); have n5_ := AZ.mk ((by rw [hg]; exact nL (Yb (g := gb163) (o := .cells #[.int .i64 a0_0, .int .i64 a0_1, .slice A0_2 l0_2.length c0_2, .slice A0_3 l0_3.length c0_3, .slice A0_4 l0_4.length c0_4, .slice A0_5 l0_5.length c0_5] 27 (0, 0)) (by (with_reducible repeat (first | refine bn_ ?_ _ | refine bd_ ?_ | refine ba_ ?_ _)); exact BK163.out)) : gb163 ≠ gb164)); have n6_ := AZ.mk ((by rw [hg]; exact nG (Yb (g := gb163) (o := .cells #[.int .i64 a0_0, .int .i64 a0_1, .slice A0_2 l0_2.length c0_2, .slice A0_3 l0_3.length c0_3, .slice A0_4 l0_4.length c0_4, .slice A0_5 l0_5.length c0_5] 27 (0, 0)) (by (with_reducible repeat (first | refine bn_ ?_ _ | refine bd_ ?_ | refine ba_ ?_ _)); exact BK163.out)) : gb164 ≠ gb163)); clear BK163; clear HB; have BK163 := n0_; have HB := n1_; have BK164 := n2_; have GW164 := n3_; have GE164 := n4_; have NB163_164 := n5_; have NB164_163 := n6_; clear n0_ n1_ n2_ n3_ n4_ n5_ n6_; clear hb hbox hg; have hnb50 := NB163_164.out; have hnc50 := NB164_163.out; obtain ⟨hcz51_0, hcz51_1, hcz51_2, hcz51_3, hcz51_4, hcz51_5⟩ := c6 BK163.out; obtain ⟨hfz51_0, hfz51_1, hfz51_2, hfz51_3, hfz51_4, hfz51_5⟩ := f6 BK163.out; obtain ⟨hcz52_0, hcz52_1, hcz52_2, hcz52_3, hcz52_4, hcz52_5⟩ := c6 BK164.out; obtain ⟨hfz52_0, hfz52_1, hfz52_2, hfz52_3, hfz52_4, hfz52_5⟩ := f6 BK164.out))
  go_ret
  exact ⟨by first | rfl | (simp [Zd, Ze] <;> rfl) | (simp [*, Zd, Ze] <;> rfl), by repeat (first | (with_reducible first | exact HB.out | apply pA | apply pN | apply pD | refine pS ?_ GE163.out | refine pS ?_ GE164.out) | exact HB.out)⟩
 rw [if_pos c4] at H
 have c4b0 : (a0_1 == a1_1) = true := beq_iff_eq.mpr c4
 have c4b1 : (a0_1 != a1_1) = false := bne_eq_false_iff_eq.mpr c4
 clear c4
 replace H := Option.bind_eq_some_iff.mp H
 obtain ⟨t165, A50, H⟩ := H
 replace H : (if t165 = true then ((laws_eqPushSS.f k l0_3 l1_3).bind fun t166 => (if t166 = true then ((laws_eqInt64SSS.f k l0_4 l1_4).bind fun t167 => (if t167 = true then ((laws_eqInt64SS.f k l0_5 l1_5).bind fun t168 => (if t168 = true then (some true) else (some false))) else (some false))) else (some false))) else (some false)) = some r := H
 have A5 := AZ.mk A50
 clear A50
 by_cases c6 : t165 = true
 rotate_left
 ·replace c6 := Bool.eq_false_iff.mpr c6
  subst c6
  have H1 : (some false) = some r := by rw [if_neg (show ¬ (false = true) by decide)] at H; exact H
  clear H
  have H := H1
  clear H1
  obtain rfl := oJ H
  go_enter Try.func12, Try.ntmps12
  go_wp2_with (first | ((with_reducible refine Zb (N := 2) rfl ?_); refine Zc ?hg (N := 2) ?hd (cs := #[.int .i64 a0_0, .int .i64 a0_1, .slice A0_2 l0_2.length c0_2, .slice A0_3 l0_3.length c0_3, .slice A0_4 l0_4.length c0_4, .slice A0_5 l0_5.length c0_5]) (t := 27) ?hr ?_; (case hd => rfl); (case hg => rfl); (case hr => first | (go_simp; done) | (go_simp; rfl)); intro gb163 hg w43 hbox hb; have n0_ := AZ.mk (pT (by repeat (first | (with_reducible first | exact HB.out | apply pA | apply pN | apply pD) | exact HB.out)) hb); have n1_ := AZ.mk (hbox); have n2_ := AZ.mk ((by rw [hg]; exact (pZ (by repeat (first | (with_reducible first | exact HB.out | apply pA | apply pN | apply pD) | exact HB.out))) : w.heap.size ≤ gb163)); have n3_ := AZ.mk ((by rw [hg]; exact (pZ (by repeat (first | (with_reducible first | exact HB.out | apply pA | apply pN | apply pD) | exact HB.out))) : w.heap.size ≤ gb163)); clear HB; have HB := n0_; have BK163 := n1_; have GW163 := n2_; have GE163 := n3_; clear n0_ n1_ n2_ n3_; clear hb hbox hg) | ((with_reducible refine Zb (N := 3) rfl ?_); refine Zc ?hg (N := 3) ?hd (cs := #[.int .i64 a1_0, .int .i64 a1_1, .slice A1_2 l1_2.length c1_2, .slice A1_3 l1_3.length c1_3, .slice A1_4 l1_4.length c1_4, .slice A1_5 l1_5.length c1_5]) (t := 27) ?hr ?_; (case hd => rfl); (case hg => rfl); (case hr => first | (go_simp; done) | (go_simp; rfl)); intro gb164 hg w44 hbox hb; have n0_ := AZ.mk (bb_ (g := gb163) (o := .cells #[.int .i64 a0_0, .int .i64 a0_1, .slice A0_2 l0_2.length c0_2, .slice A0_3 l0_3.length c0_3, .slice A0_4 l0_4.length c0_4, .slice A0_5 l0_5.length c0_5] 27 (0, 0)) (by (with_reducible repeat (first | refine bn_ ?_ _ | refine bd_ ?_ | refine ba_ ?_ _)); exact BK163.out) hb); have n1_ := AZ.mk (pT (by repeat (first | (with_reducible first | exact HB.out | apply pA | apply pN | apply pD | refine pS ?_ GE163.out) | exact HB.out)) hb); have n2_ := AZ.mk (hbox); have n3_ := AZ.mk ((by rw [hg]; exact (pZ (by repeat (first | (with_reducible first | exact HB.out | apply pA | apply pN | apply pD | refine pS ?_ GE163.out) | exact HB.out))) : w.heap.size ≤ gb164)); have n4_ := AZ.mk ((by rw [hg]; exact (pZ (by repeat (first | (with_reducible first | exact HB.out | apply pA | apply pN | apply pD | refine pS ?_ GE163.out) | exact HB.out))) : w.heap.size ≤ gb164)); have n5_ := AZ.mk ((by rw [hg]; exact nL (Yb (g := gb163) (o := .cells #[.int .i64 a0_0, .int .i64 a0_1, .slice A0_2 l0_2.length c0_2, .slice A0_3 l0_3.length c0_3, .slice A0_4 l0_4.length c0_4, .slice A0_5 l0_5.length c0_5] 27 (0, 0)) (by (with_reducible repeat (first | refine bn_ ?_ _ | refine bd_ ?_ | refine ba_ ?_ _)); exact BK163.out)) : gb163 ≠ gb164)); have n6_ := AZ.mk ((by rw [hg]; exact nG (Yb (g := gb163) (o := .cells #[.int .i64 a0_0, .int .i64 a0_1, .slice A0_2 l0_2.length c0_2, .slice A0_3 l0_3.length c0_3, .slice A0_4 l0_4.length c0_4, .slice A0_5 l0_5.length c0_5] 27 (0, 0)) (by (with_reducible repeat (first | refine bn_ ?_ _ | refine bd_ ?_ | refine ba_ ?_ _)); exact BK163.out)) : gb164 ≠ gb163)); clear BK163; clear HB; have BK163 := n0_; have HB := n1_; have BK164 := n2_; have GW164 := n3_; have GE164 := n4_; have NB163_164 := n5_; have NB164_163 := n6_; clear n0_ n1_ n2_ n3_ n4_ n5_ n6_; clear hb hbox hg; have hnb45 := NB163_164.out; have hnc45 := NB164_163.out; obtain ⟨hcz46_0, hcz46_1, hcz46_2, hcz46_3, hcz46_4, hcz46_5⟩ := c6 BK163.out; obtain ⟨hfz46_0, hfz46_1, hfz46_2, hfz46_3, hfz46_4, hfz46_5⟩ := f6 BK163.out; obtain ⟨hcz47_0, hcz47_1, hcz47_2, hcz47_3, hcz47_4, hcz47_5⟩ := c6 BK164.out; obtain ⟨hfz47_0, hfz47_1, hfz47_2, hfz47_3, hfz47_4, hfz47_5⟩ := f6 BK164.out) | ((with_reducible refine gate_callee (f := 34) rfl ?_); refine Zs (some 19) rfl rfl Try.func34 (by kernel_rfl) rfl #[.slice A0_2 l0_2.length c0_2, .slice A1_2 l1_2.length c1_2] rfl (by (try simp only [mA, mB, mC]); first | done | rfl | (simp only [lD, lT]; rfl)) ?_; (with_reducible refine (laws_eqBoolS.calls k _ _ l0_2 _ _ l1_2 false _ ?side1 ?side2 ?side3 ?side4 A5.out).mono ?_); (case side1 => repeat (first | exact (Kd.C_below HR0_2.out HB.out) | (with_reducible refine Kd.C_alloc ?_ _) | (with_reducible refine Kd.C_drewN ?_ _) | (with_reducible refine Kd.C_drew ?_))); (case side2 => exact HC0_2.out); (case side3 => repeat (first | exact (Kd.C_below HR1_2.out HB.out) | (with_reducible refine Kd.C_alloc ?_ _) | (with_reducible refine Kd.C_drewN ?_ _) | (with_reducible refine Kd.C_drew ?_))); (case side4 => exact HC1_2.out); rintro e w' ⟨rfl, ⟨nd, rfl⟩⟩; refine ⟨_, rfl, ?_⟩))
  go_ret
  exact ⟨by first | rfl | (simp [Zd, Ze] <;> rfl) | (simp [*, Zd, Ze] <;> rfl), by repeat (first | (with_reducible first | exact HB.out | apply pA | apply pN | apply pD | refine pS ?_ GE163.out | refine pS ?_ GE164.out) | exact HB.out)⟩
 subst c6
 have H1 : ((laws_eqPushSS.f k l0_3 l1_3).bind fun t166 => (if t166 = true then ((laws_eqInt64SSS.f k l0_4 l1_4).bind fun t167 => (if t167 = true then ((laws_eqInt64SS.f k l0_5 l1_5).bind fun t168 => (if t168 = true then (some true) else (some false))) else (some false))) else (some false))) = some r := by rw [if_pos rfl] at H; exact H
 clear H
 have H := H1
 clear H1
 replace H := Option.bind_eq_some_iff.mp H
 obtain ⟨t166, A70, H⟩ := H
 replace H : (if t166 = true then ((laws_eqInt64SSS.f k l0_4 l1_4).bind fun t167 => (if t167 = true then ((laws_eqInt64SS.f k l0_5 l1_5).bind fun t168 => (if t168 = true then (some true) else (some false))) else (some false))) else (some false)) = some r := H
 have A7 := AZ.mk A70
 clear A70
 by_cases c8 : t166 = true
 rotate_left
 ·replace c8 := Bool.eq_false_iff.mpr c8
  subst c8
  have H1 : (some false) = some r := by rw [if_neg (show ¬ (false = true) by decide)] at H; exact H
  clear H
  have H := H1
  clear H1
  obtain rfl := oJ H
  go_enter Try.func12, Try.ntmps12
  go_wp2_with (first | ((with_reducible refine Zb (N := 2) rfl ?_); refine Zc ?hg (N := 2) ?hd (cs := #[.int .i64 a0_0, .int .i64 a0_1, .slice A0_2 l0_2.length c0_2, .slice A0_3 l0_3.length c0_3, .slice A0_4 l0_4.length c0_4, .slice A0_5 l0_5.length c0_5]) (t := 27) ?hr ?_; (case hd => rfl); (case hg => rfl); (case hr => first | (go_simp; done) | (go_simp; rfl)); intro gb163 hg w37 hbox hb; have n0_ := AZ.mk (pT (by repeat (first | (with_reducible first | exact HB.out | apply pA | apply pN | apply pD) | exact HB.out)) hb); have n1_ := AZ.mk (hbox); have n2_ := AZ.mk ((by rw [hg]; exact (pZ (by repeat (first | (with_reducible first | exact HB.out | apply pA | apply pN | apply pD) | exact HB.out))) : w.heap.size ≤ gb163)); have n3_ := AZ.mk ((by rw [hg]; exact (pZ (by repeat (first | (with_reducible first | exact HB.out | apply pA | apply pN | apply pD) | exact HB.out))) : w.heap.size ≤ gb163)); clear HB; have HB := n0_; have BK163 := n1_; have GW163 := n2_; have GE163 := n3_; clear n0_ n1_ n2_ n3_; clear hb hbox hg) | ((with_reducible refine Zb (N := 3) rfl ?_); refine Zc ?hg (N := 3) ?hd (cs := #[.int .i64 a1_0, .int .i64 a1_1, .slice A1_2 l1_2.length c1_2, .slice A1_3 l1_3.length c1_3, .slice A1_4 l1_4.length c1_4, .slice A1_5 l1_5.length c1_5]) (t := 27) ?hr ?_; (case hd => rfl); (case hg => rfl); (case hr => first | (go_simp; done) | (go_simp; rfl)); intro gb164 hg w38 hbox hb; have n0_ := AZ.mk (bb_ (g := gb163) (o := .cells #[.int .i64 a0_0, .int .i64 a0_1, .slice A0_2 l0_2.length c0_2, .slice A0_3 l0_3.length c0_3, .slice A0_4 l0_4.length c0_4, .slice A0_5 l0_5.length c0_5] 27 (0, 0)) (by (with_reducible repeat (first | refine bn_ ?_ _ | refine bd_ ?_ | refine ba_ ?_ _)); exact BK163.out) hb); have n1_ := AZ.mk (pT (by repeat (first | (with_reducible first | exact HB.out | apply pA | apply pN | apply pD | refine pS ?_ GE163.out) | exact HB.out)) hb); have n2_ := AZ.mk (hbox); have n3_ := AZ.mk ((by rw [hg]; exact (pZ (by repeat (first | (with_reducible first | exact HB.out | apply pA | apply pN | apply pD | refine pS ?_ GE163.out) | exact HB.out))) : w.heap.size ≤ gb164)); have n4_ := AZ.mk ((by rw [hg]; exact (pZ (by repeat (first | (with_reducible first | exact HB.out | apply pA | apply pN | apply pD | refine pS ?_ GE163.out) | exact HB.out))) : w.heap.size ≤ gb164)); have n5_ := AZ.mk ((by rw [hg]; exact nL (Yb (g := gb163) (o := .cells #[.int .i64 a0_0, .int .i64 a0_1, .slice A0_2 l0_2.length c0_2, .slice A0_3 l0_3.length c0_3, .slice A0_4 l0_4.length c0_4, .slice A0_5 l0_5.length c0_5] 27 (0, 0)) (by (with_reducible repeat (first | refine bn_ ?_ _ | refine bd_ ?_ | refine ba_ ?_ _)); exact BK163.out)) : gb163 ≠ gb164)); have n6_ := AZ.mk ((by rw [hg]; exact nG (Yb (g := gb163) (o := .cells #[.int .i64 a0_0, .int .i64 a0_1, .slice A0_2 l0_2.length c0_2, .slice A0_3 l0_3.length c0_3, .slice A0_4 l0_4.length c0_4, .slice A0_5 l0_5.length c0_5] 27 (0, 0)) (by (with_reducible repeat (first | refine bn_ ?_ _ | refine bd_ ?_ | refine ba_ ?_ _)); exact BK163.out)) : gb164 ≠ gb163)); clear BK163; clear HB; have BK163 := n0_; have HB := n1_; have BK164 := n2_; have GW164 := n3_; have GE164 := n4_; have NB163_164 := n5_; have NB164_163 := n6_; clear n0_ n1_ n2_ n3_ n4_ n5_ n6_; clear hb hbox hg; have hnb39 := NB163_164.out; have hnc39 := NB164_163.out; obtain ⟨hcz40_0, hcz40_1, hcz40_2, hcz40_3, hcz40_4, hcz40_5⟩ := c6 BK163.out; obtain ⟨hfz40_0, hfz40_1, hfz40_2, hfz40_3, hfz40_4, hfz40_5⟩ := f6 BK163.out; obtain ⟨hcz41_0, hcz41_1, hcz41_2, hcz41_3, hcz41_4, hcz41_5⟩ := c6 BK164.out; obtain ⟨hfz41_0, hfz41_1, hfz41_2, hfz41_3, hfz41_4, hfz41_5⟩ := f6 BK164.out) | ((with_reducible refine gate_callee (f := 34) rfl ?_); refine Zs (some 19) rfl rfl Try.func34 (by kernel_rfl) rfl #[.slice A0_2 l0_2.length c0_2, .slice A1_2 l1_2.length c1_2] rfl (by (try simp only [mA, mB, mC]); first | done | rfl | (simp only [lD, lT]; rfl)) ?_; (with_reducible refine (laws_eqBoolS.calls k _ _ l0_2 _ _ l1_2 true _ ?side1 ?side2 ?side3 ?side4 A5.out).mono ?_); (case side1 => repeat (first | exact (Kd.C_below HR0_2.out HB.out) | (with_reducible refine Kd.C_alloc ?_ _) | (with_reducible refine Kd.C_drewN ?_ _) | (with_reducible refine Kd.C_drew ?_))); (case side2 => exact HC0_2.out); (case side3 => repeat (first | exact (Kd.C_below HR1_2.out HB.out) | (with_reducible refine Kd.C_alloc ?_ _) | (with_reducible refine Kd.C_drewN ?_ _) | (with_reducible refine Kd.C_drew ?_))); (case side4 => exact HC1_2.out); rintro e w' ⟨rfl, ⟨nd, rfl⟩⟩; refine ⟨_, rfl, ?_⟩) | ((with_reducible refine gate_callee (f := 35) rfl ?_); refine Zs (some 25) rfl rfl Try.func35 (by kernel_rfl) rfl #[.slice A0_3 l0_3.length c0_3, .slice A1_3 l1_3.length c1_3] rfl (by (try simp only [mA, mB, mC]); first | done | rfl | (simp only [lD, lT]; rfl)) ?_; (with_reducible refine (laws_eqPushSS.calls k _ _ l0_3 _ _ l1_3 false _ ?side1 ?side2 ?side3 ?side4 A7.out).mono ?_); (case side1 => repeat (first | exact (Kd.C_below HR0_3.out (by repeat (first | (with_reducible first | exact HB.out | apply pA | apply pN | apply pD | refine pS ?_ GE163.out | refine pS ?_ GE164.out) | exact HB.out))) | (with_reducible refine Kd.C_alloc ?_ _) | (with_reducible refine Kd.C_drewN ?_ _) | (with_reducible refine Kd.C_drew ?_))); (case side2 => exact HC0_3.out); (case side3 => repeat (first | exact (Kd.C_below HR1_3.out (by repeat (first | (with_reducible first | exact HB.out | apply pA | apply pN | apply pD | refine pS ?_ GE163.out | refine pS ?_ GE164.out) | exact HB.out))) | (with_reducible refine Kd.C_alloc ?_ _) | (with_reducible refine Kd.C_drewN ?_ _) | (with_reducible refine Kd.C_drew ?_))); (case side4 => exact HC1_3.out); rintro e w42 ⟨rfl, hb⟩; refine ⟨_, rfl, ?_⟩; have n0_ := AZ.mk (bb_ (g := gb163) (o := .cells #[.int .i64 a0_0, .int .i64 a0_1, .slice A0_2 l0_2.length c0_2, .slice A0_3 l0_3.length c0_3, .slice A0_4 l0_4.length c0_4, .slice A0_5 l0_5.length c0_5] 27 (0, 0)) (by (with_reducible repeat (first | refine bn_ ?_ _ | refine bd_ ?_ | refine ba_ ?_ _)); exact BK163.out) hb); have n1_ := AZ.mk (bb_ (g := gb164) (o := .cells #[.int .i64 a1_0, .int .i64 a1_1, .slice A1_2 l1_2.length c1_2, .slice A1_3 l1_3.length c1_3, .slice A1_4 l1_4.length c1_4, .slice A1_5 l1_5.length c1_5] 27 (0, 0)) (by (with_reducible repeat (first | refine bn_ ?_ _ | refine bd_ ?_ | refine ba_ ?_ _)); exact BK164.out) hb); have n2_ := AZ.mk (pT (by repeat (first | (with_reducible first | exact HB.out | apply pA | apply pN | apply pD | refine pS ?_ GE163.out | refine pS ?_ GE164.out) | exact HB.out)) hb); clear BK163; clear BK164; clear HB; have BK163 := n0_; have BK164 := n1_; have HB := n2_; clear n0_ n1_ n2_; (try clear hb); (try clear hb2); (try clear hk); (try clear hi)))
  go_ret
  exact ⟨by first | rfl | (simp [Zd, Ze] <;> rfl) | (simp [*, Zd, Ze] <;> rfl), by repeat (first | (with_reducible first | exact HB.out | apply pA | apply pN | apply pD | refine pS ?_ GE163.out | refine pS ?_ GE164.out) | exact HB.out)⟩
 subst c8
 have H1 : ((laws_eqInt64SSS.f k l0_4 l1_4).bind fun t167 => (if t167 = true then ((laws_eqInt64SS.f k l0_5 l1_5).bind fun t168 => (if t168 = true then (some true) else (some false))) else (some false))) = some r := by rw [if_pos rfl] at H; exact H
 clear H
 have H := H1
 clear H1
 replace H := Option.bind_eq_some_iff.mp H
 obtain ⟨t167, A90, H⟩ := H
 replace H : (if t167 = true then ((laws_eqInt64SS.f k l0_5 l1_5).bind fun t168 => (if t168 = true then (some true) else (some false))) else (some false)) = some r := H
 have A9 := AZ.mk A90
 clear A90
 by_cases c10 : t167 = true
 rotate_left
 ·replace c10 := Bool.eq_false_iff.mpr c10
  subst c10
  have H1 : (some false) = some r := by rw [if_neg (show ¬ (false = true) by decide)] at H; exact H
  clear H
  have H := H1
  clear H1
  obtain rfl := oJ H
  go_enter Try.func12, Try.ntmps12
  go_wp2_with (first | ((with_reducible refine Zb (N := 2) rfl ?_); refine Zc ?hg (N := 2) ?hd (cs := #[.int .i64 a0_0, .int .i64 a0_1, .slice A0_2 l0_2.length c0_2, .slice A0_3 l0_3.length c0_3, .slice A0_4 l0_4.length c0_4, .slice A0_5 l0_5.length c0_5]) (t := 27) ?hr ?_; (case hd => rfl); (case hg => rfl); (case hr => first | (go_simp; done) | (go_simp; rfl)); intro gb163 hg w29 hbox hb; have n0_ := AZ.mk (pT (by repeat (first | (with_reducible first | exact HB.out | apply pA | apply pN | apply pD) | exact HB.out)) hb); have n1_ := AZ.mk (hbox); have n2_ := AZ.mk ((by rw [hg]; exact (pZ (by repeat (first | (with_reducible first | exact HB.out | apply pA | apply pN | apply pD) | exact HB.out))) : w.heap.size ≤ gb163)); have n3_ := AZ.mk ((by rw [hg]; exact (pZ (by repeat (first | (with_reducible first | exact HB.out | apply pA | apply pN | apply pD) | exact HB.out))) : w.heap.size ≤ gb163)); clear HB; have HB := n0_; have BK163 := n1_; have GW163 := n2_; have GE163 := n3_; clear n0_ n1_ n2_ n3_; clear hb hbox hg) | ((with_reducible refine Zb (N := 3) rfl ?_); refine Zc ?hg (N := 3) ?hd (cs := #[.int .i64 a1_0, .int .i64 a1_1, .slice A1_2 l1_2.length c1_2, .slice A1_3 l1_3.length c1_3, .slice A1_4 l1_4.length c1_4, .slice A1_5 l1_5.length c1_5]) (t := 27) ?hr ?_; (case hd => rfl); (case hg => rfl); (case hr => first | (go_simp; done) | (go_simp; rfl)); intro gb164 hg w30 hbox hb; have n0_ := AZ.mk (bb_ (g := gb163) (o := .cells #[.int .i64 a0_0, .int .i64 a0_1, .slice A0_2 l0_2.length c0_2, .slice A0_3 l0_3.length c0_3, .slice A0_4 l0_4.length c0_4, .slice A0_5 l0_5.length c0_5] 27 (0, 0)) (by (with_reducible repeat (first | refine bn_ ?_ _ | refine bd_ ?_ | refine ba_ ?_ _)); exact BK163.out) hb); have n1_ := AZ.mk (pT (by repeat (first | (with_reducible first | exact HB.out | apply pA | apply pN | apply pD | refine pS ?_ GE163.out) | exact HB.out)) hb); have n2_ := AZ.mk (hbox); have n3_ := AZ.mk ((by rw [hg]; exact (pZ (by repeat (first | (with_reducible first | exact HB.out | apply pA | apply pN | apply pD | refine pS ?_ GE163.out) | exact HB.out))) : w.heap.size ≤ gb164)); have n4_ := AZ.mk ((by rw [hg]; exact (pZ (by repeat (first | (with_reducible first | exact HB.out | apply pA | apply pN | apply pD | refine pS ?_ GE163.out) | exact HB.out))) : w.heap.size ≤ gb164)); have n5_ := AZ.mk ((by rw [hg]; exact nL (Yb (g := gb163) (o := .cells #[.int .i64 a0_0, .int .i64 a0_1, .slice A0_2 l0_2.length c0_2, .slice A0_3 l0_3.length c0_3, .slice A0_4 l0_4.length c0_4, .slice A0_5 l0_5.length c0_5] 27 (0, 0)) (by (with_reducible repeat (first | refine bn_ ?_ _ | refine bd_ ?_ | refine ba_ ?_ _)); exact BK163.out)) : gb163 ≠ gb164)); have n6_ := AZ.mk ((by rw [hg]; exact nG (Yb (g := gb163) (o := .cells #[.int .i64 a0_0, .int .i64 a0_1, .slice A0_2 l0_2.length c0_2, .slice A0_3 l0_3.length c0_3, .slice A0_4 l0_4.length c0_4, .slice A0_5 l0_5.length c0_5] 27 (0, 0)) (by (with_reducible repeat (first | refine bn_ ?_ _ | refine bd_ ?_ | refine ba_ ?_ _)); exact BK163.out)) : gb164 ≠ gb163)); clear BK163; clear HB; have BK163 := n0_; have HB := n1_; have BK164 := n2_; have GW164 := n3_; have GE164 := n4_; have NB163_164 := n5_; have NB164_163 := n6_; clear n0_ n1_ n2_ n3_ n4_ n5_ n6_; clear hb hbox hg; have hnb31 := NB163_164.out; have hnc31 := NB164_163.out; obtain ⟨hcz32_0, hcz32_1, hcz32_2, hcz32_3, hcz32_4, hcz32_5⟩ := c6 BK163.out; obtain ⟨hfz32_0, hfz32_1, hfz32_2, hfz32_3, hfz32_4, hfz32_5⟩ := f6 BK163.out; obtain ⟨hcz33_0, hcz33_1, hcz33_2, hcz33_3, hcz33_4, hcz33_5⟩ := c6 BK164.out; obtain ⟨hfz33_0, hfz33_1, hfz33_2, hfz33_3, hfz33_4, hfz33_5⟩ := f6 BK164.out) | ((with_reducible refine gate_callee (f := 34) rfl ?_); refine Zs (some 19) rfl rfl Try.func34 (by kernel_rfl) rfl #[.slice A0_2 l0_2.length c0_2, .slice A1_2 l1_2.length c1_2] rfl (by (try simp only [mA, mB, mC]); first | done | rfl | (simp only [lD, lT]; rfl)) ?_; (with_reducible refine (laws_eqBoolS.calls k _ _ l0_2 _ _ l1_2 true _ ?side1 ?side2 ?side3 ?side4 A5.out).mono ?_); (case side1 => repeat (first | exact (Kd.C_below HR0_2.out HB.out) | (with_reducible refine Kd.C_alloc ?_ _) | (with_reducible refine Kd.C_drewN ?_ _) | (with_reducible refine Kd.C_drew ?_))); (case side2 => exact HC0_2.out); (case side3 => repeat (first | exact (Kd.C_below HR1_2.out HB.out) | (with_reducible refine Kd.C_alloc ?_ _) | (with_reducible refine Kd.C_drewN ?_ _) | (with_reducible refine Kd.C_drew ?_))); (case side4 => exact HC1_2.out); rintro e w' ⟨rfl, ⟨nd, rfl⟩⟩; refine ⟨_, rfl, ?_⟩) | ((with_reducible refine gate_callee (f := 35) rfl ?_); refine Zs (some 25) rfl rfl Try.func35 (by kernel_rfl) rfl #[.slice A0_3 l0_3.length c0_3, .slice A1_3 l1_3.length c1_3] rfl (by (try simp only [mA, mB, mC]); first | done | rfl | (simp only [lD, lT]; rfl)) ?_; (with_reducible refine (laws_eqPushSS.calls k _ _ l0_3 _ _ l1_3 true _ ?side1 ?side2 ?side3 ?side4 A7.out).mono ?_); (case side1 => repeat (first | exact (Kd.C_below HR0_3.out (by repeat (first | (with_reducible first | exact HB.out | apply pA | apply pN | apply pD | refine pS ?_ GE163.out | refine pS ?_ GE164.out) | exact HB.out))) | (with_reducible refine Kd.C_alloc ?_ _) | (with_reducible refine Kd.C_drewN ?_ _) | (with_reducible refine Kd.C_drew ?_))); (case side2 => exact HC0_3.out); (case side3 => repeat (first | exact (Kd.C_below HR1_3.out (by repeat (first | (with_reducible first | exact HB.out | apply pA | apply pN | apply pD | refine pS ?_ GE163.out | refine pS ?_ GE164.out) | exact HB.out))) | (with_reducible refine Kd.C_alloc ?_ _) | (with_reducible refine Kd.C_drewN ?_ _) | (with_reducible refine Kd.C_drew ?_))); (case side4 => exact HC1_3.out); rintro e w34 ⟨rfl, hb⟩; refine ⟨_, rfl, ?_⟩; have n0_ := AZ.mk (bb_ (g := gb163) (o := .cells #[.int .i64 a0_0, .int .i64 a0_1, .slice A0_2 l0_2.length c0_2, .slice A0_3 l0_3.length c0_3, .slice A0_4 l0_4.length c0_4, .slice A0_5 l0_5.length c0_5] 27 (0, 0)) (by (with_reducible repeat (first | refine bn_ ?_ _ | refine bd_ ?_ | refine ba_ ?_ _)); exact BK163.out) hb); have n1_ := AZ.mk (bb_ (g := gb164) (o := .cells #[.int .i64 a1_0, .int .i64 a1_1, .slice A1_2 l1_2.length c1_2, .slice A1_3 l1_3.length c1_3, .slice A1_4 l1_4.length c1_4, .slice A1_5 l1_5.length c1_5] 27 (0, 0)) (by (with_reducible repeat (first | refine bn_ ?_ _ | refine bd_ ?_ | refine ba_ ?_ _)); exact BK164.out) hb); have n2_ := AZ.mk (pT (by repeat (first | (with_reducible first | exact HB.out | apply pA | apply pN | apply pD | refine pS ?_ GE163.out | refine pS ?_ GE164.out) | exact HB.out)) hb); clear BK163; clear BK164; clear HB; have BK163 := n0_; have BK164 := n1_; have HB := n2_; clear n0_ n1_ n2_; (try clear hb); (try clear hb2); (try clear hk); (try clear hi); obtain ⟨hcz35_0, hcz35_1, hcz35_2, hcz35_3, hcz35_4, hcz35_5⟩ := c6 BK163.out; obtain ⟨hfz35_0, hfz35_1, hfz35_2, hfz35_3, hfz35_4, hfz35_5⟩ := f6 BK163.out; obtain ⟨hcz36_0, hcz36_1, hcz36_2, hcz36_3, hcz36_4, hcz36_5⟩ := c6 BK164.out; obtain ⟨hfz36_0, hfz36_1, hfz36_2, hfz36_3, hfz36_4, hfz36_5⟩ := f6 BK164.out) | ((with_reducible refine gate_callee (f := 36) rfl ?_); refine Zs (some 31) rfl rfl Try.func36 (by kernel_rfl) rfl #[.slice A0_4 l0_4.length c0_4, .slice A1_4 l1_4.length c1_4] rfl (by (try simp only [mA, mB, mC]); first | done | rfl | (simp only [lD, lT]; rfl)) ?_; (with_reducible refine (laws_eqInt64SSS.calls k _ _ l0_4 _ _ l1_4 false _ ?side1 ?side2 ?side3 ?side4 A9.out).mono ?_); (case side1 => repeat (first | exact (Kd.C_below HR0_4.out HB.out) | (with_reducible refine Kd.C_alloc ?_ _) | (with_reducible refine Kd.C_drewN ?_ _) | (with_reducible refine Kd.C_drew ?_))); (case side2 => exact HC0_4.out); (case side3 => repeat (first | exact (Kd.C_below HR1_4.out HB.out) | (with_reducible refine Kd.C_alloc ?_ _) | (with_reducible refine Kd.C_drewN ?_ _) | (with_reducible refine Kd.C_drew ?_))); (case side4 => exact HC1_4.out); rintro e w' ⟨rfl, ⟨nd, rfl⟩⟩; refine ⟨_, rfl, ?_⟩))
  go_ret
  exact ⟨by first | rfl | (simp [Zd, Ze] <;> rfl) | (simp [*, Zd, Ze] <;> rfl), by repeat (first | (with_reducible first | exact HB.out | apply pA | apply pN | apply pD | refine pS ?_ GE163.out | refine pS ?_ GE164.out) | exact HB.out)⟩
 subst c10
 have H1 : ((laws_eqInt64SS.f k l0_5 l1_5).bind fun t168 => (if t168 = true then (some true) else (some false))) = some r := by rw [if_pos rfl] at H; exact H
 clear H
 have H := H1
 clear H1
 replace H := Option.bind_eq_some_iff.mp H
 obtain ⟨t168, A110, H⟩ := H
 replace H : (if t168 = true then (some true) else (some false)) = some r := H
 have A11 := AZ.mk A110
 clear A110
 by_cases c12 : t168 = true
 ·subst c12
  have H1 : (some true) = some r := by rw [if_pos rfl] at H; exact H
  clear H
  have H := H1
  clear H1
  obtain rfl := oJ H
  go_enter Try.func12, Try.ntmps12
  go_wp2_with (first | ((with_reducible refine Zb (N := 2) rfl ?_); refine Zc ?hg (N := 2) ?hd (cs := #[.int .i64 a0_0, .int .i64 a0_1, .slice A0_2 l0_2.length c0_2, .slice A0_3 l0_3.length c0_3, .slice A0_4 l0_4.length c0_4, .slice A0_5 l0_5.length c0_5]) (t := 27) ?hr ?_; (case hd => rfl); (case hg => rfl); (case hr => first | (go_simp; done) | (go_simp; rfl)); intro gb163 hg w13 hbox hb; have n0_ := AZ.mk (pT (by repeat (first | (with_reducible first | exact HB.out | apply pA | apply pN | apply pD) | exact HB.out)) hb); have n1_ := AZ.mk (hbox); have n2_ := AZ.mk ((by rw [hg]; exact (pZ (by repeat (first | (with_reducible first | exact HB.out | apply pA | apply pN | apply pD) | exact HB.out))) : w.heap.size ≤ gb163)); have n3_ := AZ.mk ((by rw [hg]; exact (pZ (by repeat (first | (with_reducible first | exact HB.out | apply pA | apply pN | apply pD) | exact HB.out))) : w.heap.size ≤ gb163)); clear HB; have HB := n0_; have BK163 := n1_; have GW163 := n2_; have GE163 := n3_; clear n0_ n1_ n2_ n3_; clear hb hbox hg) | ((with_reducible refine Zb (N := 3) rfl ?_); refine Zc ?hg (N := 3) ?hd (cs := #[.int .i64 a1_0, .int .i64 a1_1, .slice A1_2 l1_2.length c1_2, .slice A1_3 l1_3.length c1_3, .slice A1_4 l1_4.length c1_4, .slice A1_5 l1_5.length c1_5]) (t := 27) ?hr ?_; (case hd => rfl); (case hg => rfl); (case hr => first | (go_simp; done) | (go_simp; rfl)); intro gb164 hg w14 hbox hb; have n0_ := AZ.mk (bb_ (g := gb163) (o := .cells #[.int .i64 a0_0, .int .i64 a0_1, .slice A0_2 l0_2.length c0_2, .slice A0_3 l0_3.length c0_3, .slice A0_4 l0_4.length c0_4, .slice A0_5 l0_5.length c0_5] 27 (0, 0)) (by (with_reducible repeat (first | refine bn_ ?_ _ | refine bd_ ?_ | refine ba_ ?_ _)); exact BK163.out) hb); have n1_ := AZ.mk (pT (by repeat (first | (with_reducible first | exact HB.out | apply pA | apply pN | apply pD | refine pS ?_ GE163.out) | exact HB.out)) hb); have n2_ := AZ.mk (hbox); have n3_ := AZ.mk ((by rw [hg]; exact (pZ (by repeat (first | (with_reducible first | exact HB.out | apply pA | apply pN | apply pD | refine pS ?_ GE163.out) | exact HB.out))) : w.heap.size ≤ gb164)); have n4_ := AZ.mk ((by rw [hg]; exact (pZ (by repeat (first | (with_reducible first | exact HB.out | apply pA | apply pN | apply pD | refine pS ?_ GE163.out) | exact HB.out))) : w.heap.size ≤ gb164)); have n5_ := AZ.mk ((by rw [hg]; exact nL (Yb (g := gb163) (o := .cells #[.int .i64 a0_0, .int .i64 a0_1, .slice A0_2 l0_2.length c0_2, .slice A0_3 l0_3.length c0_3, .slice A0_4 l0_4.length c0_4, .slice A0_5 l0_5.length c0_5] 27 (0, 0)) (by (with_reducible repeat (first | refine bn_ ?_ _ | refine bd_ ?_ | refine ba_ ?_ _)); exact BK163.out)) : gb163 ≠ gb164)); have n6_ := AZ.mk ((by rw [hg]; exact nG (Yb (g := gb163) (o := .cells #[.int .i64 a0_0, .int .i64 a0_1, .slice A0_2 l0_2.length c0_2, .slice A0_3 l0_3.length c0_3, .slice A0_4 l0_4.length c0_4, .slice A0_5 l0_5.length c0_5] 27 (0, 0)) (by (with_reducible repeat (first | refine bn_ ?_ _ | refine bd_ ?_ | refine ba_ ?_ _)); exact BK163.out)) : gb164 ≠ gb163)); clear BK163; clear HB; have BK163 := n0_; have HB := n1_; have BK164 := n2_; have GW164 := n3_; have GE164 := n4_; have NB163_164 := n5_; have NB164_163 := n6_; clear n0_ n1_ n2_ n3_ n4_ n5_ n6_; clear hb hbox hg; have hnb15 := NB163_164.out; have hnc15 := NB164_163.out; obtain ⟨hcz16_0, hcz16_1, hcz16_2, hcz16_3, hcz16_4, hcz16_5⟩ := c6 BK163.out; obtain ⟨hfz16_0, hfz16_1, hfz16_2, hfz16_3, hfz16_4, hfz16_5⟩ := f6 BK163.out; obtain ⟨hcz17_0, hcz17_1, hcz17_2, hcz17_3, hcz17_4, hcz17_5⟩ := c6 BK164.out; obtain ⟨hfz17_0, hfz17_1, hfz17_2, hfz17_3, hfz17_4, hfz17_5⟩ := f6 BK164.out) | ((with_reducible refine gate_callee (f := 34) rfl ?_); refine Zs (some 19) rfl rfl Try.func34 (by kernel_rfl) rfl #[.slice A0_2 l0_2.length c0_2, .slice A1_2 l1_2.length c1_2] rfl (by (try simp only [mA, mB, mC]); first | done | rfl | (simp only [lD, lT]; rfl)) ?_; (with_reducible refine (laws_eqBoolS.calls k _ _ l0_2 _ _ l1_2 true _ ?side1 ?side2 ?side3 ?side4 A5.out).mono ?_); (case side1 => repeat (first | exact (Kd.C_below HR0_2.out HB.out) | (with_reducible refine Kd.C_alloc ?_ _) | (with_reducible refine Kd.C_drewN ?_ _) | (with_reducible refine Kd.C_drew ?_))); (case side2 => exact HC0_2.out); (case side3 => repeat (first | exact (Kd.C_below HR1_2.out HB.out) | (with_reducible refine Kd.C_alloc ?_ _) | (with_reducible refine Kd.C_drewN ?_ _) | (with_reducible refine Kd.C_drew ?_))); (case side4 => exact HC1_2.out); rintro e w' ⟨rfl, ⟨nd, rfl⟩⟩; refine ⟨_, rfl, ?_⟩) | ((with_reducible refine gate_callee (f := 35) rfl ?_); refine Zs (some 25) rfl rfl Try.func35 (by kernel_rfl) rfl #[.slice A0_3 l0_3.length c0_3, .slice A1_3 l1_3.length c1_3] rfl (by (try simp only [mA, mB, mC]); first | done | rfl | (simp only [lD, lT]; rfl)) ?_; (with_reducible refine (laws_eqPushSS.calls k _ _ l0_3 _ _ l1_3 true _ ?side1 ?side2 ?side3 ?side4 A7.out).mono ?_); (case side1 => repeat (first | exact (Kd.C_below HR0_3.out (by repeat (first | (with_reducible first | exact HB.out | apply pA | apply pN | apply pD | refine pS ?_ GE163.out | refine pS ?_ GE164.out) | exact HB.out))) | (with_reducible refine Kd.C_alloc ?_ _) | (with_reducible refine Kd.C_drewN ?_ _) | (with_reducible refine Kd.C_drew ?_))); (case side2 => exact HC0_3.out); (case side3 => repeat (first | exact (Kd.C_below HR1_3.out (by repeat (first | (with_reducible first | exact HB.out | apply pA | apply pN | apply pD | refine pS ?_ GE163.out | refine pS ?_ GE164.out) | exact HB.out))) | (with_reducible refine Kd.C_alloc ?_ _) | (with_reducible refine Kd.C_drewN ?_ _) | (with_reducible refine Kd.C_drew ?_))); (case side4 => exact HC1_3.out); rintro e w18 ⟨rfl, hb⟩; refine ⟨_, rfl, ?_⟩; have n0_ := AZ.mk (bb_ (g := gb163) (o := .cells #[.int .i64 a0_0, .int .i64 a0_1, .slice A0_2 l0_2.length c0_2, .slice A0_3 l0_3.length c0_3, .slice A0_4 l0_4.length c0_4, .slice A0_5 l0_5.length c0_5] 27 (0, 0)) (by (with_reducible repeat (first | refine bn_ ?_ _ | refine bd_ ?_ | refine ba_ ?_ _)); exact BK163.out) hb); have n1_ := AZ.mk (bb_ (g := gb164) (o := .cells #[.int .i64 a1_0, .int .i64 a1_1, .slice A1_2 l1_2.length c1_2, .slice A1_3 l1_3.length c1_3, .slice A1_4 l1_4.length c1_4, .slice A1_5 l1_5.length c1_5] 27 (0, 0)) (by (with_reducible repeat (first | refine bn_ ?_ _ | refine bd_ ?_ | refine ba_ ?_ _)); exact BK164.out) hb); have n2_ := AZ.mk (pT (by repeat (first | (with_reducible first | exact HB.out | apply pA | apply pN | apply pD | refine pS ?_ GE163.out | refine pS ?_ GE164.out) | exact HB.out)) hb); clear BK163; clear BK164; clear HB; have BK163 := n0_; have BK164 := n1_; have HB := n2_; clear n0_ n1_ n2_; (try clear hb); (try clear hb2); (try clear hk); (try clear hi); obtain ⟨hcz19_0, hcz19_1, hcz19_2, hcz19_3, hcz19_4, hcz19_5⟩ := c6 BK163.out; obtain ⟨hfz19_0, hfz19_1, hfz19_2, hfz19_3, hfz19_4, hfz19_5⟩ := f6 BK163.out; obtain ⟨hcz20_0, hcz20_1, hcz20_2, hcz20_3, hcz20_4, hcz20_5⟩ := c6 BK164.out; obtain ⟨hfz20_0, hfz20_1, hfz20_2, hfz20_3, hfz20_4, hfz20_5⟩ := f6 BK164.out) | ((with_reducible refine gate_callee (f := 36) rfl ?_); refine Zs (some 31) rfl rfl Try.func36 (by kernel_rfl) rfl #[.slice A0_4 l0_4.length c0_4, .slice A1_4 l1_4.length c1_4] rfl (by (try simp only [mA, mB, mC]); first | done | rfl | (simp only [lD, lT]; rfl)) ?_; (with_reducible refine (laws_eqInt64SSS.calls k _ _ l0_4 _ _ l1_4 true _ ?side1 ?side2 ?side3 ?side4 A9.out).mono ?_); (case side1 => repeat (first | exact (Kd.C_below HR0_4.out HB.out) | (with_reducible refine Kd.C_alloc ?_ _) | (with_reducible refine Kd.C_drewN ?_ _) | (with_reducible refine Kd.C_drew ?_))); (case side2 => exact HC0_4.out); (case side3 => repeat (first | exact (Kd.C_below HR1_4.out HB.out) | (with_reducible refine Kd.C_alloc ?_ _) | (with_reducible refine Kd.C_drewN ?_ _) | (with_reducible refine Kd.C_drew ?_))); (case side4 => exact HC1_4.out); rintro e w' ⟨rfl, ⟨nd, rfl⟩⟩; refine ⟨_, rfl, ?_⟩) | ((with_reducible refine gate_callee (f := 37) rfl ?_); refine Zs (some 37) rfl rfl Try.func37 (by kernel_rfl) rfl #[.slice A0_5 l0_5.length c0_5, .slice A1_5 l1_5.length c1_5] rfl (by (try simp only [mA, mB, mC]); first | done | rfl | (simp only [lD, lT]; rfl)) ?_; (with_reducible refine (laws_eqInt64SS.calls k _ _ l0_5 _ _ l1_5 true _ ?side1 ?side2 ?side3 ?side4 A11.out).mono ?_); (case side1 => repeat (first | exact (Kd.C_below HR0_5.out (by repeat (first | (with_reducible first | exact HB.out | apply pA | apply pN | apply pD | refine pS ?_ GE163.out | refine pS ?_ GE164.out) | exact HB.out))) | (with_reducible refine Kd.C_alloc ?_ _) | (with_reducible refine Kd.C_drewN ?_ _) | (with_reducible refine Kd.C_drew ?_))); (case side2 => exact HC0_5.out); (case side3 => repeat (first | exact (Kd.C_below HR1_5.out (by repeat (first | (with_reducible first | exact HB.out | apply pA | apply pN | apply pD | refine pS ?_ GE163.out | refine pS ?_ GE164.out) | exact HB.out))) | (with_reducible refine Kd.C_alloc ?_ _) | (with_reducible refine Kd.C_drewN ?_ _) | (with_reducible refine Kd.C_drew ?_))); (case side4 => exact HC1_5.out); rintro e w' ⟨rfl, ⟨nd, rfl⟩⟩; refine ⟨_, rfl, ?_⟩))
  go_ret
  exact ⟨by first | rfl | (simp [Zd, Ze] <;> rfl) | (simp [*, Zd, Ze] <;> rfl), by repeat (first | (with_reducible first | exact HB.out | apply pA | apply pN | apply pD | refine pS ?_ GE163.out | refine pS ?_ GE164.out) | exact HB.out)⟩
 replace c12 := Bool.eq_false_iff.mpr c12
 subst c12
 have H1 : (some false) = some r := by rw [if_neg (show ¬ (false = true) by decide)] at H; exact H
 clear H
 have H := H1
 clear H1
 obtain rfl := oJ H
 go_enter Try.func12, Try.ntmps12
 go_wp2_with (first | ((with_reducible refine Zb (N := 2) rfl ?_); refine Zc ?hg (N := 2) ?hd (cs := #[.int .i64 a0_0, .int .i64 a0_1, .slice A0_2 l0_2.length c0_2, .slice A0_3 l0_3.length c0_3, .slice A0_4 l0_4.length c0_4, .slice A0_5 l0_5.length c0_5]) (t := 27) ?hr ?_; (case hd => rfl); (case hg => rfl); (case hr => first | (go_simp; done) | (go_simp; rfl)); intro gb163 hg w21 hbox hb; have n0_ := AZ.mk (pT (by repeat (first | (with_reducible first | exact HB.out | apply pA | apply pN | apply pD) | exact HB.out)) hb); have n1_ := AZ.mk (hbox); have n2_ := AZ.mk ((by rw [hg]; exact (pZ (by repeat (first | (with_reducible first | exact HB.out | apply pA | apply pN | apply pD) | exact HB.out))) : w.heap.size ≤ gb163)); have n3_ := AZ.mk ((by rw [hg]; exact (pZ (by repeat (first | (with_reducible first | exact HB.out | apply pA | apply pN | apply pD) | exact HB.out))) : w.heap.size ≤ gb163)); clear HB; have HB := n0_; have BK163 := n1_; have GW163 := n2_; have GE163 := n3_; clear n0_ n1_ n2_ n3_; clear hb hbox hg) | ((with_reducible refine Zb (N := 3) rfl ?_); refine Zc ?hg (N := 3) ?hd (cs := #[.int .i64 a1_0, .int .i64 a1_1, .slice A1_2 l1_2.length c1_2, .slice A1_3 l1_3.length c1_3, .slice A1_4 l1_4.length c1_4, .slice A1_5 l1_5.length c1_5]) (t := 27) ?hr ?_; (case hd => rfl); (case hg => rfl); (case hr => first | (go_simp; done) | (go_simp; rfl)); intro gb164 hg w22 hbox hb; have n0_ := AZ.mk (bb_ (g := gb163) (o := .cells #[.int .i64 a0_0, .int .i64 a0_1, .slice A0_2 l0_2.length c0_2, .slice A0_3 l0_3.length c0_3, .slice A0_4 l0_4.length c0_4, .slice A0_5 l0_5.length c0_5] 27 (0, 0)) (by (with_reducible repeat (first | refine bn_ ?_ _ | refine bd_ ?_ | refine ba_ ?_ _)); exact BK163.out) hb); have n1_ := AZ.mk (pT (by repeat (first | (with_reducible first | exact HB.out | apply pA | apply pN | apply pD | refine pS ?_ GE163.out) | exact HB.out)) hb); have n2_ := AZ.mk (hbox); have n3_ := AZ.mk ((by rw [hg]; exact (pZ (by repeat (first | (with_reducible first | exact HB.out | apply pA | apply pN | apply pD | refine pS ?_ GE163.out) | exact HB.out))) : w.heap.size ≤ gb164)); have n4_ := AZ.mk ((by rw [hg]; exact (pZ (by repeat (first | (with_reducible first | exact HB.out | apply pA | apply pN | apply pD | refine pS ?_ GE163.out) | exact HB.out))) : w.heap.size ≤ gb164)); have n5_ := AZ.mk ((by rw [hg]; exact nL (Yb (g := gb163) (o := .cells #[.int .i64 a0_0, .int .i64 a0_1, .slice A0_2 l0_2.length c0_2, .slice A0_3 l0_3.length c0_3, .slice A0_4 l0_4.length c0_4, .slice A0_5 l0_5.length c0_5] 27 (0, 0)) (by (with_reducible repeat (first | refine bn_ ?_ _ | refine bd_ ?_ | refine ba_ ?_ _)); exact BK163.out)) : gb163 ≠ gb164)); have n6_ := AZ.mk ((by rw [hg]; exact nG (Yb (g := gb163) (o := .cells #[.int .i64 a0_0, .int .i64 a0_1, .slice A0_2 l0_2.length c0_2, .slice A0_3 l0_3.length c0_3, .slice A0_4 l0_4.length c0_4, .slice A0_5 l0_5.length c0_5] 27 (0, 0)) (by (with_reducible repeat (first | refine bn_ ?_ _ | refine bd_ ?_ | refine ba_ ?_ _)); exact BK163.out)) : gb164 ≠ gb163)); clear BK163; clear HB; have BK163 := n0_; have HB := n1_; have BK164 := n2_; have GW164 := n3_; have GE164 := n4_; have NB163_164 := n5_; have NB164_163 := n6_; clear n0_ n1_ n2_ n3_ n4_ n5_ n6_; clear hb hbox hg; have hnb23 := NB163_164.out; have hnc23 := NB164_163.out; obtain ⟨hcz24_0, hcz24_1, hcz24_2, hcz24_3, hcz24_4, hcz24_5⟩ := c6 BK163.out; obtain ⟨hfz24_0, hfz24_1, hfz24_2, hfz24_3, hfz24_4, hfz24_5⟩ := f6 BK163.out; obtain ⟨hcz25_0, hcz25_1, hcz25_2, hcz25_3, hcz25_4, hcz25_5⟩ := c6 BK164.out; obtain ⟨hfz25_0, hfz25_1, hfz25_2, hfz25_3, hfz25_4, hfz25_5⟩ := f6 BK164.out) | ((with_reducible refine gate_callee (f := 34) rfl ?_); refine Zs (some 19) rfl rfl Try.func34 (by kernel_rfl) rfl #[.slice A0_2 l0_2.length c0_2, .slice A1_2 l1_2.length c1_2] rfl (by (try simp only [mA, mB, mC]); first | done | rfl | (simp only [lD, lT]; rfl)) ?_; (with_reducible refine (laws_eqBoolS.calls k _ _ l0_2 _ _ l1_2 true _ ?side1 ?side2 ?side3 ?side4 A5.out).mono ?_); (case side1 => repeat (first | exact (Kd.C_below HR0_2.out HB.out) | (with_reducible refine Kd.C_alloc ?_ _) | (with_reducible refine Kd.C_drewN ?_ _) | (with_reducible refine Kd.C_drew ?_))); (case side2 => exact HC0_2.out); (case side3 => repeat (first | exact (Kd.C_below HR1_2.out HB.out) | (with_reducible refine Kd.C_alloc ?_ _) | (with_reducible refine Kd.C_drewN ?_ _) | (with_reducible refine Kd.C_drew ?_))); (case side4 => exact HC1_2.out); rintro e w' ⟨rfl, ⟨nd, rfl⟩⟩; refine ⟨_, rfl, ?_⟩) | ((with_reducible refine gate_callee (f := 35) rfl ?_); refine Zs (some 25) rfl rfl Try.func35 (by kernel_rfl) rfl #[.slice A0_3 l0_3.length c0_3, .slice A1_3 l1_3.length c1_3] rfl (by (try simp only [mA, mB, mC]); first | done | rfl | (simp only [lD, lT]; rfl)) ?_; (with_reducible refine (laws_eqPushSS.calls k _ _ l0_3 _ _ l1_3 true _ ?side1 ?side2 ?side3 ?side4 A7.out).mono ?_); (case side1 => repeat (first | exact (Kd.C_below HR0_3.out (by repeat (first | (with_reducible first | exact HB.out | apply pA | apply pN | apply pD | refine pS ?_ GE163.out | refine pS ?_ GE164.out) | exact HB.out))) | (with_reducible refine Kd.C_alloc ?_ _) | (with_reducible refine Kd.C_drewN ?_ _) | (with_reducible refine Kd.C_drew ?_))); (case side2 => exact HC0_3.out); (case side3 => repeat (first | exact (Kd.C_below HR1_3.out (by repeat (first | (with_reducible first | exact HB.out | apply pA | apply pN | apply pD | refine pS ?_ GE163.out | refine pS ?_ GE164.out) | exact HB.out))) | (with_reducible refine Kd.C_alloc ?_ _) | (with_reducible refine Kd.C_drewN ?_ _) | (with_reducible refine Kd.C_drew ?_))); (case side4 => exact HC1_3.out); rintro e w26 ⟨rfl, hb⟩; refine ⟨_, rfl, ?_⟩; have n0_ := AZ.mk (bb_ (g := gb163) (o := .cells #[.int .i64 a0_0, .int .i64 a0_1, .slice A0_2 l0_2.length c0_2, .slice A0_3 l0_3.length c0_3, .slice A0_4 l0_4.length c0_4, .slice A0_5 l0_5.length c0_5] 27 (0, 0)) (by (with_reducible repeat (first | refine bn_ ?_ _ | refine bd_ ?_ | refine ba_ ?_ _)); exact BK163.out) hb); have n1_ := AZ.mk (bb_ (g := gb164) (o := .cells #[.int .i64 a1_0, .int .i64 a1_1, .slice A1_2 l1_2.length c1_2, .slice A1_3 l1_3.length c1_3, .slice A1_4 l1_4.length c1_4, .slice A1_5 l1_5.length c1_5] 27 (0, 0)) (by (with_reducible repeat (first | refine bn_ ?_ _ | refine bd_ ?_ | refine ba_ ?_ _)); exact BK164.out) hb); have n2_ := AZ.mk (pT (by repeat (first | (with_reducible first | exact HB.out | apply pA | apply pN | apply pD | refine pS ?_ GE163.out | refine pS ?_ GE164.out) | exact HB.out)) hb); clear BK163; clear BK164; clear HB; have BK163 := n0_; have BK164 := n1_; have HB := n2_; clear n0_ n1_ n2_; (try clear hb); (try clear hb2); (try clear hk); (try clear hi); obtain ⟨hcz27_0, hcz27_1, hcz27_2, hcz27_3, hcz27_4, hcz27_5⟩ := c6 BK163.out; obtain ⟨hfz27_0, hfz27_1, hfz27_2, hfz27_3, hfz27_4, hfz27_5⟩ := f6 BK163.out; obtain ⟨hcz28_0, hcz28_1, hcz28_2, hcz28_3, hcz28_4, hcz28_5⟩ := c6 BK164.out; obtain ⟨hfz28_0, hfz28_1, hfz28_2, hfz28_3, hfz28_4, hfz28_5⟩ := f6 BK164.out) | ((with_reducible refine gate_callee (f := 36) rfl ?_); refine Zs (some 31) rfl rfl Try.func36 (by kernel_rfl) rfl #[.slice A0_4 l0_4.length c0_4, .slice A1_4 l1_4.length c1_4] rfl (by (try simp only [mA, mB, mC]); first | done | rfl | (simp only [lD, lT]; rfl)) ?_; (with_reducible refine (laws_eqInt64SSS.calls k _ _ l0_4 _ _ l1_4 true _ ?side1 ?side2 ?side3 ?side4 A9.out).mono ?_); (case side1 => repeat (first | exact (Kd.C_below HR0_4.out HB.out) | (with_reducible refine Kd.C_alloc ?_ _) | (with_reducible refine Kd.C_drewN ?_ _) | (with_reducible refine Kd.C_drew ?_))); (case side2 => exact HC0_4.out); (case side3 => repeat (first | exact (Kd.C_below HR1_4.out HB.out) | (with_reducible refine Kd.C_alloc ?_ _) | (with_reducible refine Kd.C_drewN ?_ _) | (with_reducible refine Kd.C_drew ?_))); (case side4 => exact HC1_4.out); rintro e w' ⟨rfl, ⟨nd, rfl⟩⟩; refine ⟨_, rfl, ?_⟩) | ((with_reducible refine gate_callee (f := 37) rfl ?_); refine Zs (some 37) rfl rfl Try.func37 (by kernel_rfl) rfl #[.slice A0_5 l0_5.length c0_5, .slice A1_5 l1_5.length c1_5] rfl (by (try simp only [mA, mB, mC]); first | done | rfl | (simp only [lD, lT]; rfl)) ?_; (with_reducible refine (laws_eqInt64SS.calls k _ _ l0_5 _ _ l1_5 false _ ?side1 ?side2 ?side3 ?side4 A11.out).mono ?_); (case side1 => repeat (first | exact (Kd.C_below HR0_5.out (by repeat (first | (with_reducible first | exact HB.out | apply pA | apply pN | apply pD | refine pS ?_ GE163.out | refine pS ?_ GE164.out) | exact HB.out))) | (with_reducible refine Kd.C_alloc ?_ _) | (with_reducible refine Kd.C_drewN ?_ _) | (with_reducible refine Kd.C_drew ?_))); (case side2 => exact HC0_5.out); (case side3 => repeat (first | exact (Kd.C_below HR1_5.out (by repeat (first | (with_reducible first | exact HB.out | apply pA | apply pN | apply pD | refine pS ?_ GE163.out | refine pS ?_ GE164.out) | exact HB.out))) | (with_reducible refine Kd.C_alloc ?_ _) | (with_reducible refine Kd.C_drewN ?_ _) | (with_reducible refine Kd.C_drew ?_))); (case side4 => exact HC1_5.out); rintro e w' ⟨rfl, ⟨nd, rfl⟩⟩; refine ⟨_, rfl, ?_⟩))
 go_ret
 exact ⟨by first | rfl | (simp [Zd, Ze] <;> rfl) | (simp [*, Zd, Ze] <;> rfl), by repeat (first | (with_reducible first | exact HB.out | apply pA | apply pN | apply pD | refine pS ?_ GE163.out | refine pS ?_ GE164.out) | exact HB.out)⟩
end Go.Proofs.Ytepkfigcnnfoaaa.P
namespace Go.Proofs.Ytepkfigcnnfoaaa.P
open Go.RowKit Go.Proofs.YtepkfigcnnfoaaaW.PrintWords Go.Proofs.YtepkfigcnnfoaaaW.PrintLast Go.Proofs.YtepkfigcnnfoaaaW.PrintMore Go.Proofs.Ytepkfigcnnfoaaa.Deep
def Rd {α : Type} (d : Kd α) (w : World) (v : Value) (xs : List α) : Prop := ∃ A c, v = .slice A xs.length c ∧ xs.length ≤ c ∧ d.C w A xs.length xs
theorem Rd.below {α : Type} {d : Kd α} {w w' : World} {v : Value} {xs : List α} (h : Rd d w v xs) (hb : Below w.heap.size w w') : Rd d w' v xs := by
 obtain ⟨A, c, e, hl, hC⟩ := h
 exact ⟨A, c, e, hl, Kd.C_below hC hb⟩
theorem Rd.ofR {α : Type} {d : Kd α} {e : TypeId} {w : World} {B : Nat} {ok : Nat → Prop} {v : Value} {xs : List α} (h : d.R e w B ok v xs) : Rd d w v xs := Kd.R_reads h
theorem Rd.ofS {α : Type} {d : Kd α} {e : TypeId} {w : World} {B : Nat} {ok : Nat → Prop} {v : Value} {xs : List α} (h : Kd.S d e w B ok v xs) : Rd d w v xs := Kd.S_reads h
def Reads (w : World) (vA vC vR vI : Value) (LA : List Bool) (LC : List (List S47)) (LR : List (List (List Int))) (LI : List (List Int)) : Prop :=
 Rd Kd.bool w vA LA ∧ Rd (Kd.slice 47 k47) w vC LC ∧ Rd (Kd.slice 49 (Kd.slice 2 (Kd.int .i64))) w vR LR ∧ Rd (Kd.slice 2 (Kd.int .i64)) w vI LI
section
variable {w w' : World} {B : Nat} {vA vC vR vI vA' vC' vR' vI' : Value} {LA LA' : List Bool} {LC LC' : List (List S47)} {LR LR' : List (List (List Int))} {LI LI' : List (List Int)}
theorem Reads.below (h : Reads w vA vC vR vI LA LC LR LI) (hb : Below w.heap.size w w') : Reads w' vA vC vR vI LA LC LR LI := ⟨h.1.below hb, h.2.1.below hb, h.2.2.1.below hb, h.2.2.2.below hb⟩
theorem Reads.own (h : OwnC w B vA vC vR vI LA LC LR LI) : Reads w vA vC vR vI LA LC LR LI := by
 obtain ⟨f, h0, h1, h2, h3⟩ := h
 obtain ⟨A, c, e, hl, hC⟩ := Rd.ofS h2
 exact ⟨Rd.ofR h0, Rd.ofS h1, ⟨A, c, e, hl, hC⟩, Rd.ofS h3⟩
theorem own_below (h : OwnC w B vA vC vR vI LA LC LR LI) (hb : Below w.heap.size w w') : OwnC w' B vA vC vR vI LA LC LR LI := by
 obtain ⟨f, h0, h1, h2, h3⟩ := h
 have hgr := grown_of_below hb none
 exact ⟨f, Kd.R_grown h0 hgr (fun _ _ e => by cases e), Kd.S_grown h1 hgr (fun _ _ e => by cases e), Kd.S_grown h2 hgr (fun _ _ e => by cases e), Kd.S_grown h3 hgr (fun _ _ e => by cases e)⟩
theorem eqC_calls (k : Nat) (m st m' st' : Int) (r : Bool) (h : Reads w vA vC vR vI LA LC LR LI) (h' : Reads w vA' vC' vR' vI' LA' LC' LR' LI') (hf : laws_eqChecker.f k m st LA LC LR LI m' st' LA' LC' LR' LI' = some r) :
  Calls Try.prog 12 #[.agg #[.int .i64 m, .int .i64 st, vA, vC, vR, vI], .agg #[.int .i64 m', .int .i64 st', vA', vC', vR', vI']] w fun e w' => e = .returned (.bool r) ∧ Below w.heap.size w w' := by
 obtain ⟨⟨A0, c0, rfl, l0, g0⟩, ⟨A1, c1, rfl, l1, g1⟩, ⟨A2, c2, rfl, l2, g2⟩, ⟨A3, c3, rfl, l3, g3⟩⟩ := h
 obtain ⟨⟨B0, d0, rfl, q0, p0⟩, ⟨B1, d1, rfl, q1, p1⟩, ⟨B2, d2, rfl, q2, p2⟩, ⟨B3, d3, rfl, q3, p3⟩⟩ := h'
 exact laws_eqChecker.calls k m st A0 c0 LA A1 c1 LC A2 c2 LR A3 c3 LI m' st' B0 d0 LA' B1 d1 LC' B2 d2 LR' B3 d3 LI' r w g0 l0 g1 l1 g2 l2 g3 l3 p0 q0 p1 q1 p2 q2 p3 q3 hf
theorem heldC_calls (m st : Int) (hk : okC LA LC LR LI) (h : Reads w vA vC vR vI (markA LA) (mks szP mkP LC (numC LA)) (mks szII mkII LR (numR LA LC)) (mkII LI (numI LA LC LR))) :
  Calls Try.prog 14 #[.agg #[.int .i64 m, .int .i64 st, vA, vC, vR, vI], .int .i64 1] w fun e w' => e = .returned (.int .i64 (numE LA LC LR LI)) ∧ Below w.heap.size w w' := by
 obtain ⟨⟨A0, c0, rfl, l0, g0⟩, ⟨A1, c1, rfl, l1, g1⟩, ⟨A2, c2, rfl, l2, g2⟩, ⟨A3, c3, rfl, l3, g3⟩⟩ := h
 exact laws_heldChecker.calls 7000000 m st A0 c0 _ A1 c1 _ A2 c2 _ A3 c3 _ 1 _ w g0 l0 g1 l1 g2 l2 g3 l3 (heldC m st LA LC LR LI hk)
theorem own_far {B' : Nat} (h : OwnC w B vA vC vR vI LA LC LR LI) (hfar : ∀ k, B ≤ k → w'.heap[k]? = w.heap[k]?) (hle : B' ≤ B) : OwnC w' B' vA vC vR vI LA LC LR LI := by
 obtain ⟨f, h0, h1, h2, h3⟩ := h
 exact ⟨f, Kd.R_lower (Kd.R_mono (Kd.R_step (Kd.R_bound h0) (fun k hk _ => hfar k hk.2.1)) (fun _ hk => hk.1)) hle, Kd.S_lower (Kd.S_mono (Kd.S_step (Kd.S_bound h1) (fun k hk _ => hfar k hk.2.1)) (fun _ hk => hk.1)) hle, Kd.S_lower (Kd.S_mono (Kd.S_step (Kd.S_bound h2) (fun k hk _ => hfar k hk.2.1)) (fun _ hk => hk.1)) hle, Kd.S_lower (Kd.S_mono (Kd.S_step (Kd.S_bound h3) (fun k hk _ => hfar k hk.2.1)) (fun _ hk => hk.1)) hle⟩
theorem numE_pos : 0 ≤ numE LA LC LR LI := by unfold numE numI numR numC; omega
theorem reads_shape (h : Reads w vA vC vR vI LA LC LR LI) : (∃ A n c, vA = .slice A n c) ∧ (∃ A n c, vC = .slice A n c) ∧ (∃ A n c, vR = .slice A n c) ∧ (∃ A n c, vI = .slice A n c) := by
 obtain ⟨⟨A0, c0, rfl, l0, g0⟩, ⟨A1, c1, rfl, l1, g1⟩, ⟨A2, c2, rfl, l2, g2⟩, ⟨A3, c3, rfl, l3, g3⟩⟩ := h
 exact ⟨⟨_, _, _, rfl⟩, ⟨_, _, _, rfl⟩, ⟨_, _, _, rfl⟩, ⟨_, _, _, rfl⟩⟩
end
def Yc (m st : Int) (vA vC vR vI : Value) : Array Value := #[.int .i64 m, .int .i64 st, vA, vC, vR, vI]
theorem cellsI_one {w : World} {vA vC vR vI : Value} {LA : List Bool} {LC : List (List S47)} {LR : List (List (List Int))} {LI : List (List Int)} (m st : Int) (h : Reads w vA vC vR vI LA LC LR LI) : (Yc m st vA vC vR vI).all (·.oneCell') = true := by
 obtain ⟨⟨_, _, _, rfl⟩, ⟨_, _, _, rfl⟩, ⟨_, _, _, rfl⟩, ⟨_, _, _, rfl⟩⟩ := reads_shape h
 rw [Array.all_eq_true_iff_forall_mem]
 intro x hx
 unfold Yc at hx
 rw [List.mem_toArray] at hx
 rcases List.mem_cons.1 hx with rfl | hx
 ·rfl
 rcases List.mem_cons.1 hx with rfl | hx
 ·rfl
 rcases List.mem_cons.1 hx with rfl | hx
 ·rfl
 rcases List.mem_cons.1 hx with rfl | hx
 ·rfl
 rcases List.mem_cons.1 hx with rfl | hx
 ·rfl
 rw [List.mem_singleton.1 hx]
 rfl
end Go.Proofs.Ytepkfigcnnfoaaa.P
namespace Go.Proofs.Ytepkfigcnnfoaaa.P
open Go.RowKit Go.Proofs.YtepkfigcnnfoaaaW.PrintWords Go.Proofs.YtepkfigcnnfoaaaW.PrintLast Go.Proofs.YtepkfigcnnfoaaaW.PrintMore
attribute [local go_sem] Zk Zm Zu Zv Zg Zh Zn Zp
def laws_toInt64S.l0 : Nat → List Int → List Int → Int → Option (List Int)
 | 0, _, _, _ => none
 | k + 1, x0, x3, x4 => if x4 < (x0.length : Int) then (if 0 ≤ x4 then (if x4 < (x3.length : Int) then (laws_toInt64S.l0 k x0 (x3.set (x4 : Int).toNat (rd x0 x4)) (wrap64 (x4 + 1))) else (none)) else (none)) else (some x3)
def laws_toInt64S.f (k : Nat) (l0 : List Int) : Option (List Int) := if 0 ≤ (l0.length : Int) then (if ((l0.length : Int) : Int).toNat ≤ 35184372088832 then (laws_toInt64S.l0 k l0 (List.replicate ((l0.length : Int) : Int).toNat 0) 0) else (none)) else (none)
attribute [local go_sem] Zk Zm Zu Zv Zg Zh Zn Zp
def laws_toInt64SS.l0 : Nat → List (List Int) → List (List Int) → Int → Option ((List (List Int)))
 | 0, _, _, _ => none
 | k + 1, x0, x3, x4 => if x4 < (x0.length : Int) then (if 0 ≤ x4 then ((laws_toInt64S.f k (rd_L4 x0 x4)).bind fun t441 => (if x4 < (x3.length : Int) then (laws_toInt64SS.l0 k x0 (x3.set (x4 : Int).toNat t441) (wrap64 (x4 + 1))) else (none))) else (none)) else (some x3)
def laws_toInt64SS.f (k : Nat) (l0 : List (List Int)) : Option ((List (List Int))) := if 0 ≤ (l0.length : Int) then (if ((l0.length : Int) : Int).toNat ≤ 11728124029610 then (laws_toInt64SS.l0 k l0 (List.replicate ((l0.length : Int) : Int).toNat []) 0) else (none)) else (none)
attribute [local go_sem] Zk Zm Zu Zv Zg Zh Zn Zp
def laws_toInt64SSS.l0 : Nat → List (List (List Int)) → List (List (List Int)) → Int → Option ((List (List (List Int))))
 | 0, _, _, _ => none
 | k + 1, x0, x3, x4 => if x4 < (x0.length : Int) then (if 0 ≤ x4 then ((laws_toInt64SS.f k (rd_L5 x0 x4)).bind fun t449 => (if x4 < (x3.length : Int) then (laws_toInt64SSS.l0 k x0 (x3.set (x4 : Int).toNat t449) (wrap64 (x4 + 1))) else (none))) else (none)) else (some x3)
def laws_toInt64SSS.f (k : Nat) (l0 : List (List (List Int))) : Option ((List (List (List Int)))) := if 0 ≤ (l0.length : Int) then (if ((l0.length : Int) : Int).toNat ≤ 11728124029610 then (laws_toInt64SSS.l0 k l0 (List.replicate ((l0.length : Int) : Int).toNat []) 0) else (none)) else (none)
end Go.Proofs.Ytepkfigcnnfoaaa.P
namespace Go.Proofs.Ytepkfigcnnfoaaa.P
open Go.RowKit Go.Proofs.YtepkfigcnnfoaaaW.PrintWords Go.Proofs.YtepkfigcnnfoaaaW.PrintLast Go.Proofs.YtepkfigcnnfoaaaW.PrintMore Go.Proofs.Ytepkfigcnnfoaaa.Deep
end Go.Proofs.Ytepkfigcnnfoaaa.P
namespace Go.Proofs.Ytepkfigcnnfoaaa.P
open Go.RowKit Go.Proofs.YtepkfigcnnfoaaaW.PrintWords Go.Proofs.YtepkfigcnnfoaaaW.PrintLast Go.Proofs.YtepkfigcnnfoaaaW.PrintMore
attribute [local go_sem] Zk Zm Zu Zv Zg Zh Zn Zp
def laws_toBoolS.l0 : Nat → List Bool → List Bool → Int → Option (List Bool)
 | 0, _, _, _ => none
 | k + 1, x0, x3, x4 => if x4 < (x0.length : Int) then (if 0 ≤ x4 then (if x4 < (x3.length : Int) then (laws_toBoolS.l0 k x0 (x3.set (x4 : Int).toNat (rdOf false x0 x4)) (wrap64 (x4 + 1))) else (none)) else (none)) else (some x3)
def laws_toBoolS.f (k : Nat) (l0 : List Bool) : Option (List Bool) := if 0 ≤ (l0.length : Int) then (if ((l0.length : Int) : Int).toNat ≤ 281474976710656 then (laws_toBoolS.l0 k l0 (List.replicate ((l0.length : Int) : Int).toNat false) 0) else (none)) else (none)
attribute [local go_sem] Zk Zm Zu Zv Zg Zh Zn Zp
def laws_toPush.f (a0_0 : Int) (a0_1 : Int) : Option (Int × Int) := some (a0_0, a0_1)
attribute [local go_sem] Zk Zm Zu Zv Zg Zh Zn Zp
def laws_toPushS.l0 : Nat → List (S101) → List (S47) → Int → Option ((List (S47)))
 | 0, _, _, _ => none
 | k + 1, x0, x3, x4 => if x4 < (x0.length : Int) then (if 0 ≤ x4 then ((laws_toPush.f ((rd_T101 x0 x4).f0) ((rd_T101 x0 x4).f1)).bind fun bt421 => (if x4 < (x3.length : Int) then (laws_toPushS.l0 k x0 (x3.set (x4 : Int).toNat (⟨bt421.1, bt421.2⟩ : S47)) (wrap64 (x4 + 1))) else (none))) else (none)) else (some x3)
def laws_toPushS.f (k : Nat) (l0 : List (S101)) : Option ((List (S47))) := if 0 ≤ (l0.length : Int) then (if ((l0.length : Int) : Int).toNat ≤ 17592186044416 then (laws_toPushS.l0 k l0 (List.replicate ((l0.length : Int) : Int).toNat z47) 0) else (none)) else (none)
attribute [local go_sem] Zk Zm Zu Zv Zg Zh Zn Zp
def laws_toPushSS.l0 : Nat → List (List (S101)) → List (List (S47)) → Int → Option ((List (List (S47))))
 | 0, _, _, _ => none
 | k + 1, x0, x3, x4 => if x4 < (x0.length : Int) then (if 0 ≤ x4 then ((laws_toPushS.f k (rd_L9 x0 x4)).bind fun t428 => (if x4 < (x3.length : Int) then (laws_toPushSS.l0 k x0 (x3.set (x4 : Int).toNat t428) (wrap64 (x4 + 1))) else (none))) else (none)) else (some x3)
def laws_toPushSS.f (k : Nat) (l0 : List (List (S101))) : Option ((List (List (S47)))) := if 0 ≤ (l0.length : Int) then (if ((l0.length : Int) : Int).toNat ≤ 11728124029610 then (laws_toPushSS.l0 k l0 (List.replicate ((l0.length : Int) : Int).toNat []) 0) else (none)) else (none)
end Go.Proofs.Ytepkfigcnnfoaaa.P
namespace Go.Proofs.Ytepkfigcnnfoaaa.P
open Go.RowKit Go.Proofs.YtepkfigcnnfoaaaW.PrintWords Go.Proofs.YtepkfigcnnfoaaaW.PrintLast Go.Proofs.YtepkfigcnnfoaaaW.PrintMore Go.Proofs.Ytepkfigcnnfoaaa.Deep
theorem cells4_one (m st : Int) (A0 A1 A2 A3 : Option Addr) (n0 n1 n2 n3 c0 c1 c2 c3 : Nat) : (Yc m st (.slice A0 n0 c0) (.slice A1 n1 c1) (.slice A2 n2 c2) (.slice A3 n3 c3)).all (·.oneCell') = true := by
 rw [Array.all_eq_true_iff_forall_mem]
 intro x hx
 unfold Yc at hx
 rw [List.mem_toArray] at hx
 rcases List.mem_cons.1 hx with rfl | hx
 ·rfl
 rcases List.mem_cons.1 hx with rfl | hx
 ·rfl
 rcases List.mem_cons.1 hx with rfl | hx
 ·rfl
 rcases List.mem_cons.1 hx with rfl | hx
 ·rfl
 rcases List.mem_cons.1 hx with rfl | hx
 ·rfl
 rw [List.mem_singleton.1 hx]
 rfl
end Go.Proofs.Ytepkfigcnnfoaaa.P
namespace Go.Proofs.Ytepkfigcnnfoaaa.P
open Go.RowKit Go.Proofs.YtepkfigcnnfoaaaW.PrintWords Go.Proofs.YtepkfigcnnfoaaaW.PrintLast Go.Proofs.YtepkfigcnnfoaaaW.PrintMore
attribute [local go_sem] Zk Zm Zu Zv Zg Zh Zn Zp
def impl_within.f (a0 : Int) (a1 : Int) (a2 : Int) : Option (Bool) := if a0 ≥ a1 then (some (decide (a0 ≤ a2))) else (some false)
theorem impl_within.calls (a0 : Int) (a1 : Int) (a2 : Int) (r : Bool) (w : World) (h : impl_within.f a0 a1 a2 = some r) :
  Calls Try.prog 54 #[.int .i64 a0, .int .i64 a1, .int .i64 a2] w fun e w' => e = .returned (.bool r) ∧ Drawn0 w w' := by
 have H : (if a0 ≥ a1 then (some (decide (a0 ≤ a2))) else (some false)) = some r := h
 clear h
 by_cases c4 : a0 ≥ a1
 ·rw [if_pos c4] at H
  have c4b0 : decide (a1 ≤ a0) = true := dT c4
  clear c4
  obtain rfl := oJ H
  go_enter Try.func54, Try.ntmps54
  go_wp2
  go_ret
  exact ⟨by first | rfl | (simp; done) | (simp [*]; done), by repeat (first | exact Drawn0.refl _ | apply Drawn0.step)⟩
 rw [if_neg c4] at H
 have c4b0 : decide (a1 ≤ a0) = false := dF c4
 clear c4
 obtain rfl := oJ H
 go_enter Try.func54, Try.ntmps54
 go_wp2
 go_ret
 exact ⟨by first | rfl | (simp; done) | (simp [*]; done), by repeat (first | exact Drawn0.refl _ | apply Drawn0.step)⟩
attribute [local go_sem] Zk Zm Zu Zv Zg Zh Zn Zp
def impl_size_bool.f (l0 : List Bool) : Option (Int) := some (l0.length : Int)
attribute [local go_sem] Zk Zm Zu Zv Zg Zh Zn Zp
def impl_Checker_isState.f (a0_0 : Int) (a0_1 : Int) (l0_2 : List Bool) (l0_3 : List (List (S47))) (l0_4 : List (List (List Int))) (l0_5 : List (List Int)) (a1 : Int) : Option (Bool) := (impl_size_bool.f l0_2).bind fun t469 => ((impl_within.f a1 0 (wrap64 (t469 - 1))).bind fun t470 => (some t470))
attribute [local go_sem] Zk Zm Zu Zv Zg Zh Zn Zp
def impl_size_Limpl_Push.f (l0 : List (List (S47))) : Option (Int) := some (l0.length : Int)
attribute [local go_sem] Zk Zm Zu Zv Zg Zh Zn Zp
def impl_size_LLint64.f (l0 : List (List (List Int))) : Option (Int) := some (l0.length : Int)
attribute [local go_sem] Zk Zm Zu Zv Zg Zh Zn Zp
def impl_size_Lint64.f (l0 : List (List Int)) : Option (Int) := some (l0.length : Int)
attribute [local go_sem] Zk Zm Zu Zv Zg Zh Zn Zp
def impl_Checker_isMark.f (a0_0 : Int) (a0_1 : Int) (l0_2 : List Bool) (l0_3 : List (List (S47))) (l0_4 : List (List (List Int))) (l0_5 : List (List Int)) (a1 : Int) : Option (Bool) := (impl_within.f a1 0 (wrap64 (a0_0 - 1))).bind fun t472 => (some t472)
attribute [local go_sem] Zk Zm Zu Zv Zg Zh Zn Zp
def impl_size_int64.f (l0 : List Int) : Option (Int) := some (l0.length : Int)
attribute [local go_sem] Zk Zm Zu Zv Zg Zh Zn Zp
def impl_ValidChecker_1_1_c.f (a0 : Int) (a1_0 : Int) (a1_1 : Int) (l1_2 : List Bool) (l1_3 : List (List (S47))) (l1_4 : List (List (List Int))) (l1_5 : List (List Int)) : Option (Bool) := (impl_Checker_isState.f a1_0 a1_1 l1_2 l1_3 l1_4 l1_5 a0).bind fun t486 => (some (!t486))
attribute [local go_sem] Zk Zm Zu Zv Zg Zh Zn Zp
def slices_IndexFunc_Lint64_int64_at_impl_ValidChecker_1_1.l0 : Nat → List Int → Int → Int → Int → Int → List Bool → List (List (S47)) → List (List (List Int)) → List (List Int) → Option (Int)
 | 0, _, _, _, _, _, _, _, _, _ => none
 | k + 1, x0, x7, x8, x56000, x56001, x56002, x56003, x56004, x56005 => if x8 < x7 then (if 0 ≤ x8 then (if x8 < (x0.length : Int) then ((impl_ValidChecker_1_1_c.f (rd x0 x8) x56000 x56001 x56002 x56003 x56004 x56005).bind fun t486 => (if t486 = true then (some x8) else (slices_IndexFunc_Lint64_int64_at_impl_ValidChecker_1_1.l0 k x0 x7 (wrap64 (x8 + 1)) x56000 x56001 x56002 x56003 x56004 x56005))) else (none)) else (none)) else (some (-1))
def slices_IndexFunc_Lint64_int64_at_impl_ValidChecker_1_1.f (k : Nat) (l0 : List Int) (a1_0 : Int) (a1_1 : Int) (l1_2 : List Bool) (l1_3 : List (List (S47))) (l1_4 : List (List (List Int))) (l1_5 : List (List Int)) : Option (Int) := slices_IndexFunc_Lint64_int64_at_impl_ValidChecker_1_1.l0 k l0 (l0.length : Int) 0 a1_0 a1_1 l1_2 l1_3 l1_4 l1_5
attribute [local go_sem] Zk Zm Zu Zv Zg Zh Zn Zp
def slices_ContainsFunc_Lint64_int64_at_impl_ValidChecker_1_1.f (k : Nat) (l0 : List Int) (a1_0 : Int) (a1_1 : Int) (l1_2 : List Bool) (l1_3 : List (List (S47))) (l1_4 : List (List (List Int))) (l1_5 : List (List Int)) : Option (Bool) := (slices_IndexFunc_Lint64_int64_at_impl_ValidChecker_1_1.f k l0 a1_0 a1_1 l1_2 l1_3 l1_4 l1_5).bind fun t485 => (some (decide (t485 ≥ 0)))
attribute [local go_sem] Zk Zm Zu Zv Zg Zh Zn Zp
def impl_ValidChecker_1_c.f (k : Nat) (l0 : List Int) (a1 : Int) (a2_0 : Int) (a2_1 : Int) (l2_2 : List Bool) (l2_3 : List (List (S47))) (l2_4 : List (List (List Int))) (l2_5 : List (List Int)) : Option (Bool) := (impl_size_int64.f l0).bind fun t484 => (if t484 = a1 then ((slices_ContainsFunc_Lint64_int64_at_impl_ValidChecker_1_1.f k l0 a2_0 a2_1 l2_2 l2_3 l2_4 l2_5).bind fun t485 => (some (!t485))) else (some false))
attribute [local go_sem] Zk Zm Zu Zv Zg Zh Zn Zp
mutual
def impl_ValidChecker.j0 : Nat → Int → Bool → Int → Int → List Bool → List (List (S47)) → List (List (List Int)) → List (List Int) → Option (Bool)
 | 0, _, _, _, _, _, _, _, _ => none
 | k + 1, x3, x47, x474000, x474001, x474002, x474003, x474004, x474005 => if x47 = true then (some false) else (impl_ValidChecker.l0 k x3 0 x474000 x474001 x474002 x474003 x474004 x474005)
def impl_ValidChecker.l0 : Nat → Int → Int → Int → Int → List Bool → List (List (S47)) → List (List (List Int)) → List (List Int) → Option (Bool)
 | 0, _, _, _, _, _, _, _, _ => none
 | k + 1, x49, x50, x474000, x474001, x474002, x474003, x474004, x474005 => if x50 < x49 then (if 0 ≤ x50 then (if x50 < (x474003.length : Int) then (if ((rd_L3 x474003 x50).length : Int) = 2 then (if x50 < (x474004.length : Int) then (if ((rd_L5 x474004 x50).length : Int) = 2 then (if x50 < (x474005.length : Int) then ((impl_ValidChecker_1_c.f k (rd_L4 x474005 x50) 2 x474000 x474001 x474002 x474003 x474004 x474005).bind fun t484 => (impl_ValidChecker.j2 k x50 x49 x50 (!t484) x474000 x474001 x474002 x474003 x474004 x474005)) else (none)) else (impl_ValidChecker.j2 k x50 x49 x50 true x474000 x474001 x474002 x474003 x474004 x474005)) else (none)) else (impl_ValidChecker.j2 k x50 x49 x50 true x474000 x474001 x474002 x474003 x474004 x474005)) else (none)) else (none)) else (some true)
def impl_ValidChecker.j2 : Nat → Int → Int → Int → Bool → Int → Int → List Bool → List (List (S47)) → List (List (List Int)) → List (List Int) → Option (Bool)
 | 0, _, _, _, _, _, _, _, _, _, _ => none
 | k + 1, x5, x49, x50, x78, x474000, x474001, x474002, x474003, x474004, x474005 => if x78 = true then (some false) else (impl_ValidChecker.l1 k x5 x49 x50 0 x474000 x474001 x474002 x474003 x474004 x474005)
def impl_ValidChecker.l1 : Nat → Int → Int → Int → Int → Int → Int → List Bool → List (List (S47)) → List (List (List Int)) → List (List Int) → Option (Bool)
 | 0, _, _, _, _, _, _, _, _, _, _ => none
 | k + 1, x5, x49, x50, x79, x474000, x474001, x474002, x474003, x474004, x474005 => if x79 < 2 then (if 0 ≤ x5 then (if x5 < (x474003.length : Int) then (if 0 ≤ x79 then (if x79 < ((rd_L3 x474003 x5).length : Int) then ((impl_Checker_isState.f x474000 x474001 x474002 x474003 x474004 x474005 ((Zt (rd_L3 x474003 x5) x79).f0)).bind fun t488 => (if t488 = true then ((impl_Checker_isMark.f x474000 x474001 x474002 x474003 x474004 x474005 ((Zt (rd_L3 x474003 x5) x79).f1)).bind fun t489 => (if t489 = true then (if x5 < (x474004.length : Int) then (if x79 < ((rd_L5 x474004 x5).length : Int) then ((impl_ValidChecker_1_c.f k (rd_L4 (rd_L5 x474004 x5) x79) (wrap64 (x474000 + 1)) x474000 x474001 x474002 x474003 x474004 x474005).bind fun t492 => (if t492 = true then (impl_ValidChecker.l1 k x5 x49 x50 (wrap64 (x79 + 1)) x474000 x474001 x474002 x474003 x474004 x474005) else (some false))) else (none)) else (none)) else (some false))) else (some false))) else (none)) else (none)) else (none)) else (none)) else (impl_ValidChecker.l0 k x49 (wrap64 (x50 + 1)) x474000 x474001 x474002 x474003 x474004 x474005)
end
def impl_ValidChecker.f (k : Nat) (a0_0 : Int) (a0_1 : Int) (l0_2 : List Bool) (l0_3 : List (List (S47))) (l0_4 : List (List (List Int))) (l0_5 : List (List Int)) : Option (Bool) := (impl_size_bool.f l0_2).bind fun t474 => ((impl_within.f t474 1 40).bind fun t475 => (if t475 = true then ((impl_within.f a0_0 1 80).bind fun t476 => (if t476 = true then ((impl_Checker_isState.f a0_0 a0_1 l0_2 l0_3 l0_4 l0_5 a0_1).bind fun t477 => (if t477 = true then ((impl_size_Limpl_Push.f l0_3).bind fun t478 => (if t478 = t474 then ((impl_size_LLint64.f l0_4).bind fun t479 => (if t479 = t474 then ((impl_size_Lint64.f l0_5).bind fun t480 => (impl_ValidChecker.j0 k t474 (t480 != t474) a0_0 a0_1 l0_2 l0_3 l0_4 l0_5)) else (impl_ValidChecker.j0 k t474 true a0_0 a0_1 l0_2 l0_3 l0_4 l0_5))) else (impl_ValidChecker.j0 k t474 true a0_0 a0_1 l0_2 l0_3 l0_4 l0_5))) else (impl_ValidChecker.j0 k t474 true a0_0 a0_1 l0_2 l0_3 l0_4 l0_5))) else (impl_ValidChecker.j0 k t474 true a0_0 a0_1 l0_2 l0_3 l0_4 l0_5))) else (impl_ValidChecker.j0 k t474 true a0_0 a0_1 l0_2 l0_3 l0_4 l0_5)))
def impl_ValidChecker.T14 : Bool × List (List Nat × List Nat) := (true, [([], []), ([], []), ([1], [1]), ([0, 2], [0, 2]), ([3], [3]), ([4, 3], [4]), ([5], [5]), ([5], [5]), ([7, 5], [5, 7]), ([6, 8, 5, 5], [5, 6, 8]), ([9, 5], [5, 9]), ([5, 10], [5, 10]), ([11, 9], [11]), ([12], [12]), ([12], [12]), ([14, 12], [12, 14]), ([12], [12]), ([15, 16, 12], [12, 15, 16]), ([17, 12], [12, 17]), ([12], [12]), ([18, 19, 12], [12, 18, 19]), ([20, 12], [12, 20]), ([12], [12]), ([22, 12], [12, 22]), ([23, 12], [12, 23]), ([13, 21, 24, 12, 12], [12, 13, 21, 24]), ([25, 12], [12, 25]), ([12, 26], [12, 26])])
def impl_ValidChecker.B14 : List Nat := [0, 0, 2, 7, 15, 31, 63, 63, 191, 511, 1023, 2047, 4095, 8191, 8191, 24575, 8191, 122879, 253951, 8191, 1040383, 2088959, 8191, 4202495, 12591103, 33554431, 67108863, 134217727]
attribute [local go_sem] Zk Zm Zu Zv Zg Zh Zn Zp
def impl_OppositeChecker_1_c.f (a0 : Int) (a1_0 : Int) (a1_1 : Int) (l1_2 : List Bool) (l1_3 : List (List (S47))) (l1_4 : List (List (List Int))) (l1_5 : List (List Int)) : Option (Bool) := if 0 ≤ a0 then (if a0 < (l1_2.length : Int) then (some (!(rdOf false l1_2 a0))) else (none)) else (none)
attribute [local go_sem] Zk Zm Zu Zv Zg Zh Zn Zp
def impl_Checker_accepting_2_c.f (a0 : Int) (a1 : Int) (a2 : Int) (a3_0 : Int) (a3_1 : Int) (l3_2 : List Bool) (l3_3 : List (List (S47))) (l3_4 : List (List (List Int))) (l3_5 : List (List Int)) : Option (Int) := if 0 ≤ a0 then (if a0 < (l3_4.length : Int) then (if 0 ≤ a1 then (if a1 < ((rd_L5 l3_4 a0).length : Int) then (if 0 ≤ a2 then (if a2 < ((rd_L4 (rd_L5 l3_4 a0) a1).length : Int) then (some (rd (rd_L4 (rd_L5 l3_4 a0) a1) a2)) else (none)) else (none)) else (none)) else (none)) else (none)) else (none)
attribute [local go_sem] Zk Zm Zu Zv Zg Zh Zn Zp
def impl_Checker_accepting_1_c.f (a0 : Int) (a1 : Int) (a2_0 : Int) (a2_1 : Int) (l2_2 : List Bool) (l2_3 : List (List (S47))) (l2_4 : List (List (List Int))) (l2_5 : List (List Int)) : Option (Int × Int) := if 0 ≤ a0 then (if a0 < (l2_3.length : Int) then (if 0 ≤ a1 then (if a1 < ((rd_L3 l2_3 a0).length : Int) then (some ((Zt (rd_L3 l2_3 a0) a1).f0, (Zt (rd_L3 l2_3 a0) a1).f1)) else (none)) else (none)) else (none)) else (none)
attribute [local go_sem] Zk Zm Zu Zv Zg Zh Zn Zp
def impl_Checker_accepting_3_c.f (a0 : Int) (a1 : Int) (a2_0 : Int) (a2_1 : Int) (l2_2 : List Bool) (l2_3 : List (List (S47))) (l2_4 : List (List (List Int))) (l2_5 : List (List Int)) : Option (Int) := if 0 ≤ a0 then (if a0 < (l2_5.length : Int) then (if 0 ≤ a1 then (if a1 < ((rd_L4 l2_5 a0).length : Int) then (some (rd (rd_L4 l2_5 a0) a1)) else (none)) else (none)) else (none)) else (none)
end Go.Proofs.Ytepkfigcnnfoaaa.P
namespace Go.Proofs.Ytepkfigcnnfoaaa.P
open Go.RowKit Go.Proofs.YtepkfigcnnfoaaaW.PrintWords Go.Proofs.YtepkfigcnnfoaaaW.PrintLast Go.Proofs.YtepkfigcnnfoaaaW.PrintMore Go.Proofs.Ytepkfigcnnfoaaa.Deep
section
variable {ops : Array Oper} {o : Oper} {a : Act} {Q : Exit → Act → World → Prop} {W : World} {K : Act → World → Prop}
end
def callC (l3 : List (List S47)) : Nat → Nat → S47 := fun s q => Zt (rd_L3 l3 (s : Int)) (q : Int)
def backC (l4 : List (List (List Int))) : Nat → Nat → Nat → Int := fun s q x => rd (rd_L4 (rd_L5 l4 (s : Int)) (q : Int)) (x : Int)
def innerC (l5 : List (List Int)) : Nat → Nat → Int := fun s q => rd (rd_L4 l5 (s : Int)) (q : Int)
structure Shp (m : Nat) (l2 : List Bool) (l3 : List (List S47)) (l4 : List (List (List Int))) (l5 : List (List Int)) : Prop where
 hn : l2.length ≤ 2000
 hm : m ≤ 7000
 c : l3.length = l2.length
 c1 : ∀ x ∈ l3, x.length = 2
 r : l4.length = l2.length
 r1 : ∀ x ∈ l4, x.length = 2 ∧ ∀ y ∈ x, y.length = m + 1
 i : l5.length = l2.length
 i1 : ∀ x ∈ l5, x.length = 2
section
variable {m : Nat} {st : Int} {l2 : List Bool} {l3 : List (List S47)} {l4 : List (List (List Int))} {l5 : List (List Int)} (h : Shp m l2 l3 l4 l5)
include h
theorem Shp.at3 (s : Nat) (hs : s < l2.length) : ∃ x ∈ l3, rd_L3 l3 (s : Int) = x := ⟨l3[s]'(by rw [h.c]; exact hs), List.getElem_mem _, by unfold rd_L3; rw [Int.toNat_natCast, List.getD_eq_getElem?_getD, List.getElem?_eq_getElem (by rw [h.c]; exact hs)]; rfl⟩
theorem Shp.at4 (s : Nat) (hs : s < l2.length) : ∃ x ∈ l4, rd_L5 l4 (s : Int) = x := ⟨l4[s]'(by rw [h.r]; exact hs), List.getElem_mem _, by unfold rd_L5; rw [Int.toNat_natCast, List.getD_eq_getElem?_getD, List.getElem?_eq_getElem (by rw [h.r]; exact hs)]; rfl⟩
theorem Shp.at5 (s : Nat) (hs : s < l2.length) : ∃ x ∈ l5, rd_L4 l5 (s : Int) = x := ⟨l5[s]'(by rw [h.i]; exact hs), List.getElem_mem _, by unfold rd_L4; rw [Int.toNat_natCast, List.getD_eq_getElem?_getD, List.getElem?_eq_getElem (by rw [h.i]; exact hs)]; rfl⟩
theorem Shp.call (s q : Nat) (hs : s < l2.length) (hq : q < 2) : impl_Checker_accepting_1_c.f (s : Int) (q : Int) (m : Int) st l2 l3 l4 l5 = some ((callC l3 s q).f0, (callC l3 s q).f1) := by
 obtain ⟨x, hx, e⟩ := h.at3 s hs
 have := h.c1 x hx
 have := h.c
 unfold impl_Checker_accepting_1_c.f callC
 rw [e, if_pos (by omega), if_pos (by omega), if_pos (by omega), if_pos (by omega)]
theorem Shp.back (s q x : Nat) (hs : s < l2.length) (hq : q < 2) (hx : x < m + 1) : impl_Checker_accepting_2_c.f (s : Int) (q : Int) (x : Int) (m : Int) st l2 l3 l4 l5 = some (backC l4 s q x) := by
 obtain ⟨y, hy, e⟩ := h.at4 s hs
 obtain ⟨h1, h2⟩ := h.r1 y hy
 have h3 : rd_L4 y (q : Int) = y[q]'(by omega) := by unfold rd_L4; rw [Int.toNat_natCast, List.getD_eq_getElem?_getD, List.getElem?_eq_getElem (by omega)]; rfl
 have h4 := h2 _ (List.getElem_mem (by omega : q < y.length))
 have := h.r
 unfold impl_Checker_accepting_2_c.f backC
 rw [e, h3, if_pos (by omega), if_pos (by omega), if_pos (by omega), if_pos (by omega), if_pos (by omega), if_pos (by omega)]
theorem Shp.inner (s q : Nat) (hs : s < l2.length) (hq : q < 2) : impl_Checker_accepting_3_c.f (s : Int) (q : Int) (m : Int) st l2 l3 l4 l5 = some (innerC l5 s q) := by
 obtain ⟨x, hx, e⟩ := h.at5 s hs
 have := h.i1 x hx
 have := h.i
 unfold impl_Checker_accepting_3_c.f innerC
 rw [e, if_pos (by omega), if_pos (by omega), if_pos (by omega), if_pos (by omega)]
end
def accepting.T1 : Bool × List (List Nat × List Nat) := (true, [([], []), ([0], [0]), ([1], [1]), ([], []), ([3], [3]), ([], []), ([5], [5]), ([], []), ([], []), ([], []), ([], []), ([2, 4, 6, 7, 8, 9, 10, 2], [2, 4, 6, 7, 8, 9, 10]), ([11, 11, 0, 1, 2, 3, 4, 5, 6, 7, 8, 9, 10, 11], [11])])
def accepting.B1 : List Nat := [0, 1, 3, 0, 8, 0, 32, 0, 0, 0, 0, 2047, 4095]
def accC (l2 : List Bool) : Nat → Bool := fun s => !(rdOf false l2 (s : Int))
section
variable {m : Nat} {l2 : List Bool} {l3 : List (List S47)} {l4 : List (List (List Int))} {l5 : List (List Int)} (h : Shp m l2 l3 l4 l5)
include h
end
theorem own_nil' (w : World) (B : Nat) : OwnC w B Zx Zx Zx Zx [] [] [] [] := ⟨fun _ => 0, Kd.R_nil _ _ _ _ _, Kd.S_nil _ _ _ _ _, Kd.S_nil _ _ _ _ _, Kd.S_nil _ _ _ _ _⟩
end Go.Proofs.Ytepkfigcnnfoaaa.P
namespace Go.Proofs.Ytepkfigcnnfoaaa.P
open Go.RowKit Go.Proofs.YtepkfigcnnfoaaaW.PrintWords Go.Proofs.YtepkfigcnnfoaaaW.PrintLast Go.Proofs.YtepkfigcnnfoaaaW.PrintMore
attribute [local go_sem] Zk Zm Zu Zv Zg Zh Zn Zp
theorem stringslite_IndexByte.any (s : ByteArray) (c : Int) (w : World) :
  Calls Try.prog 115 #[.string s, .int .u8 c] w fun e w' => e = .returned (.int .i64 (Lib.indexByte s.data.toList c.toNat.toUInt8)) ∧ w' = w := by
 go_enter Try.func115, Try.ntmps115
 go_wp2
 rw [run_callFunc_extern Try.func118 (by kernel_rfl) (by kernel_rfl) (by kernel_rfl) (e := Extern.BytealgIndexByte.indexByte) (by kernel_rfl), Lib.run_indexByteString]
 simp only [Result.andThen]
 rw [Oper.upon_value]
 go_wp2
 go_ret
 exact ⟨rfl, rfl⟩
def strings_IndexByte.f (a0 : ByteArray) (a1 : Int) : Option (Int) := some (Lib.indexByte a0.data.toList a1.toNat.toUInt8)
theorem strings_IndexByte.calls (a0 : ByteArray) (a1 : Int) (r : Int) (w : World) (h : strings_IndexByte.f a0 a1 = some r) :
  Calls Try.prog 90 #[.string a0, .int .u8 a1] w fun e w' => e = .returned (.int .i64 r) ∧ Drawn0 w w' := by
 obtain rfl := oJ h
 clear h
 go_enter Try.func90, Try.ntmps90
 go_wp2_with (go_at_call 115; refine (stringslite_IndexByte.any _ _ _).mono ?_; rintro e w' ⟨rfl, rfl⟩)
 go_ret
 exact ⟨rfl, by repeat (first | exact Drawn0.refl _ | apply Drawn0.step)⟩
attribute [local go_sem] Zk Zm Zu Zv Zg Zh Zn Zp
def impl_ValidWord.l0 : Nat → ByteArray → Int → Int → Option (Bool)
 | 0, _, _, _ => none
 | k + 1, x0, x5, x6 => if x6 < x5 then (if 0 ≤ x6 then (if x6 < (x0.size : Int) then ((strings_IndexByte.f (⟨#[40, 91, 41, 93, 97, 98]⟩ : ByteArray) (bt x0 x6)).bind fun t307 => (if t307 < 0 then (some false) else (impl_ValidWord.l0 k x0 x5 (wrap64 (x6 + 1))))) else (none)) else (none)) else (some (decide ((x0.size : Int) ≤ 60)))
def impl_ValidWord.f (k : Nat) (a0 : ByteArray) : Option (Bool) := impl_ValidWord.l0 k a0 (a0.size : Int) 0
theorem impl_ValidWord.calls (k : Nat) (a0 : ByteArray) (r : Bool) (w : World) (h : impl_ValidWord.f k a0 = some r) :
  Calls Try.prog 60 #[.string a0] w fun e w' => e = .returned (.bool r) ∧ Drawn0 w w' := by
 have H : (impl_ValidWord.l0 k a0 (a0.size : Int) 0) = some r := h
 clear h
 have H' := AZ.mk H
 clear H
 go_enter Try.func60, Try.ntmps60
 go_wp2
 go_loopg [6] k (fun kq v6 w' => ∃ (x6_1 : Int), v6 = .int .i64 x6_1 ∧ AZ (impl_ValidWord.l0 kq a0 (a0.size : Int) x6_1 = some r) ∧ AZ (kq ≤ k) ∧ Drawn0 w w')
 case atStart => exact ⟨(0), (by first | rfl | (simp; done) | (simp [*]; done)), H', ⟨Nat.le_refl _⟩, by repeat (first | exact Drawn0.refl _ | apply Drawn0.step)⟩
 case round =>
  clear H'
  obtain ⟨x6_1, rfl, HA, HK1, ⟨m1, rfl⟩⟩ := hrel
  cases gk with
  | zero => exact absurd HA.out (by simp [impl_ValidWord.l0])
  | succ k1 =>
   have H := HA.out
   clear HA
   simp only [impl_ValidWord.l0] at H
   by_cases c2 : x6_1 < (a0.size : Int)
   rotate_left
   ·rw [if_neg c2] at H
    have c2b0 : decide (x6_1 < (a0.size : Int)) = false := dF c2
    clear c2
    obtain rfl := oJ H
    go_wp2
    go_ret
    exact ⟨by first | rfl | (simp; done) | (simp [*]; done), by repeat (first | exact Drawn0.refl _ | apply Drawn0.step)⟩
   rw [if_pos c2] at H
   have c2b0 : decide (x6_1 < (a0.size : Int)) = true := dT c2
   clear c2
   by_cases c3 : 0 ≤ x6_1
   rotate_left
   ·rw [if_neg c3] at H
    exact absurd H (by simp)
   rw [if_pos c3] at H
   have c3b0 : decide (0 ≤ x6_1) = true := dT c3
   clear c3
   by_cases c4 : x6_1 < (a0.size : Int)
   rotate_left
   ·rw [if_neg c4] at H
    exact absurd H (by simp)
   rw [if_pos c4] at H
   have c4b0 : decide (x6_1 < (a0.size : Int)) = true := dT c4
   clear c4
   replace H := Option.bind_eq_some_iff.mp H
   obtain ⟨t307, A60, H⟩ := H
   replace H : (if t307 < 0 then (some false) else (impl_ValidWord.l0 k1 a0 (a0.size : Int) (wrap64 (x6_1 + 1)))) = some r := H
   have A6 := AZ.mk A60
   clear A60
   by_cases c7 : t307 < 0
   ·rw [if_pos c7] at H
    have c7b0 : decide (t307 < 0) = true := dT c7
    clear c7
    obtain rfl := oJ H
    have p5 : 0 ≤ (x6_1 : Int) := oT (by first | (with_reducible assumption) | assumption)
    have q5 : x6_1 < (a0.size : Int) := oT (by first | (with_reducible assumption) | assumption)
    have hx5 := bt_at a0 x6_1
    replace p5 := eq_true p5
    replace q5 := eq_true q5
    go_wp2_with (first | ((with_reducible refine gate_callee (f := 90) rfl ?_); refine Zs (some 12) rfl rfl Try.func90 (by kernel_rfl) rfl #[.string (⟨#[40, 91, 41, 93, 97, 98]⟩ : ByteArray), .int .u8 (bt a0 x6_1)] rfl (by (try simp only [mA, mB, mC]); first | done | rfl | (simp only [lD, lT]; rfl)) ?_; (with_reducible refine (strings_IndexByte.calls (⟨#[40, 91, 41, 93, 97, 98]⟩ : ByteArray) (bt a0 x6_1) t307 _ A6.out).mono ?_); rintro e w' ⟨rfl, ⟨nd, rfl⟩⟩; refine ⟨_, rfl, ?_⟩))
    go_ret
    exact ⟨by first | rfl | (simp; done) | (simp [*]; done), by repeat (first | exact Drawn0.refl _ | apply Drawn0.step)⟩
   rw [if_neg c7] at H
   have c7b0 : decide (t307 < 0) = false := dF c7
   clear c7
   have H' := AZ.mk H
   clear H
   have p5 : 0 ≤ (x6_1 : Int) := oT (by first | (with_reducible assumption) | assumption)
   have q5 : x6_1 < (a0.size : Int) := oT (by first | (with_reducible assumption) | assumption)
   have hx5 := bt_at a0 x6_1
   replace p5 := eq_true p5
   replace q5 := eq_true q5
   go_wp2_with (first | ((with_reducible refine gate_callee (f := 90) rfl ?_); refine Zs (some 12) rfl rfl Try.func90 (by kernel_rfl) rfl #[.string (⟨#[40, 91, 41, 93, 97, 98]⟩ : ByteArray), .int .u8 (bt a0 x6_1)] rfl (by (try simp only [mA, mB, mC]); first | done | rfl | (simp only [lD, lT]; rfl)) ?_; (with_reducible refine (strings_IndexByte.calls (⟨#[40, 91, 41, 93, 97, 98]⟩ : ByteArray) (bt a0 x6_1) t307 _ A6.out).mono ?_); rintro e w' ⟨rfl, ⟨nd, rfl⟩⟩; refine ⟨_, rfl, ?_⟩))
   go_roundg k1
   case measure => have := HK1.out; omega
   case rel => exact ⟨(wrap64 (x6_1 + 1)), (by first | rfl | (simp; done) | (simp [*]; done)), H', ⟨by have := HK1.out; omega⟩, by repeat (first | exact Drawn0.refl _ | apply Drawn0.step)⟩
end Go.Proofs.Ytepkfigcnnfoaaa.P
namespace Go.Proofs.Ytepkfigcnnfoaaa.P
open Go.RowKit Go.Proofs.YtepkfigcnnfoaaaW.PrintWords Go.Proofs.YtepkfigcnnfoaaaW.PrintLast Go.Proofs.YtepkfigcnnfoaaaW.PrintMore Go.Proofs.Ytepkfigcnnfoaaa.Deep
namespace Count
theorem size47 : (Try.prog.info? 47).map (·.size) = some 2 := by kernel_rfl
theorem store47 {ops : Array Oper} {rest : List Oper} {o : Oper} {a : Act} {Q : Exit → Act → World → Prop} {W : World} (hgd : o.guard = none) (p v : Tmp) (ho : o.op = .store 47 (.tmp p) (.tmp v)) {g : Nat} {old cs : Array Value} (hx : a.eval (.tmp p) = .pointer (some ⟨g, 0, none⟩)) (hy : a.eval (.tmp v) = .agg cs) (hb : W.heap[g]? = some (.cells old 47 (0, 0)))
  (hs : cs.size = 2) (hs0 : old.size = 2) (h1 : cs.all (·.oneCell') = true)
  (h : ∀ w', w'.heap[g]? = some (.cells cs 47 (0, 0)) → (∀ B w0, Below B w0 W → B ≤ g → Below B w0 w') → (∀ k, k ≠ g → w'.heap[k]? = W.heap[k]?) → wpList Try.prog ops Q rest (a.put o.dst undef) w') : wpList Try.prog ops Q (o :: rest) a W := by
 refine wpList_plain hgd fun K hK => wp_store_row 47 _ _ ho g cs hx hy 47 old hb (by rw [size47, hs]) (by omega) h1 ?_
 exact hK _ _ (h _ (setRow_heap _ _ _ _ _ _ hb) (fun B w0 hB hle => hB.trans ⟨rfl, rfl, rfl, by simp, fun k hk => setRow_other _ _ _ _ (by omega)⟩) (fun k hk => setRow_other _ _ _ _ hk))
theorem two_one (x y : Int) : (#[.int .i64 x, .int .i64 y] : Array Value).all (·.oneCell') = true := by
 simp [Array.all_eq_true_iff_forall_mem, Value.oneCell']
theorem rdc {w w' : World} {p : Addr} {v : Value} (hb : Below w.heap.size w w') (h : w.cell? p = some v) : w'.cell? p = some v := (hb.cell (World.block_lt_of_cell? w _ h)).trans h
def cnext.T1 : Bool × List (List Nat × List Nat) := (true, [([], []), ([0], [0]), ([], []), ([1, 2], [1, 2]), ([3], [3]), ([], []), ([5], [5]), ([4, 6], [4, 6])])
def cnext.B1 : List Nat := [0, 1, 0, 7, 15, 0, 32, 127]
theorem cnext.tab1 : rtab .any (opsOf Try.f61 1) = cnext.T1 := by kernel_rfl
theorem cnext.bits1 : waitsOk cnext.T1.2 cnext.B1 = true := by kernel_rfl
theorem next_calls (s a1 a2 c m : Int) (sy : ByteArray) (hsy : sy.size = 1) (gS gM : Nat) (w : World) (bS : w.heap[gS]? = some (.cells #[.string sy] 9 (0, 0))) (bM : w.heap[gM]? = some (.cells #[.int .i64 m] 2 (0, 0))) (h0 : 0 ≤ s) (h1 : s ≤ 40) (hm : m ≠ 0) (hc : wrap64 (wrap64 (2 * a1) + a2) = c) (c0 : 0 ≤ c) (c6 : c < 6) (r : Int) (hr : (if bt (⟨#[40, 91, 41, 93, 97, 98]⟩ : ByteArray) c = bt sy 0 then Int.tmod (s + 1) m else Int.tmod s m) = r) :
  Calls Try.prog 61 #[.int .i64 s, .int .i64 a1, .int .i64 a2, .pointer (some ⟨gS, 0, none⟩), .pointer (some ⟨gM, 0, none⟩)] w fun e w' => e = .returned (.int .i64 r) ∧ Below w.heap.size w w' := by
 have Ks := AZ.mk (show w.cell? ⟨gS, 0, none⟩ = some (.string sy) from (bc bS 0).trans rfl)
 have Km := AZ.mk (show w.cell? ⟨gM, 0, none⟩ = some (.int .i64 m) from (bc bM 0).trans rfl)
 have hcw : IntKind.i64.wrap (wrap64 (2 * a1) + a2) = c := (i64_w _).trans hc
 have pc := eq_true c0
 have qc := eq_true c6
 have qs := eq_true (show c < ((⟨#[40, 91, 41, 93, 97, 98]⟩ : ByteArray).size : Int) from c6)
 have ps := eq_true (show (0 : Int) < (sy.size : Int) by omega)
 have bx := bt_at (⟨#[40, 91, 41, 93, 97, 98]⟩ : ByteArray) c
 have by_ : ∀ h : 0 < sy.size, ((sy[0]'h).toNat : Int) = bt sy 0 := fun h => bt_at sy 0 h
 have hw1 : wrap64 (s + 1) = s + 1 := bw' _ (by omega) (by omega)
 have hw2 : IntKind.i64.wrap (s + 1) = s + 1 := (i64_w _).trans hw1
 have z0 : (m == 0) = false := beq_eq_false_iff_ne.mpr hm
 have z1 : (m != 0) = true := bne_iff_ne.mpr hm
 have z2 := eq_false hm
 have HW := AZ.mk (Below.refl w.heap.size w)
 clear bS bM h0 h1 hm hc c0 c6
 go_enter Try.func61, Try.ntmps61
 go_wp2
 refine start_ (n := 8) (S := fun w' => True) (ds := []) (bz 8 0) (by kernel_rfl) rfl rfl trivial (fun hHeld => ?_)
 refine with_tabW cnext.tab1 cnext.bits1 (fun HT_ HW_ => ?_)
 have n0_ := AZ.mk (pD HW.out)
 clear HW
 have HW := n0_
 clear n0_
 generalize World.drew _ = wD at HW hHeld ⊢
 refine pure_ (i := 0) (N := some 9) (v := ?_) (a' := ?_) (bz 8 1) rfl rfl (Zy HT_.out (by kernel_rfl)) (fun _ _ _ h => h) (Or.inl ⟨by rfl, ?_⟩) ?_ ?_
 rotate_left
 ·intro w'
  go_simp
  with_reducible rfl
 rotate_left
 ·simp only [Act.put, sA, sB, sC, i64_w, i32_w]
  rfl
 refine pure_ (i := 2) (N := some 11) (v := ?_) (a' := ?_) (bz 8 5) rfl rfl (Zy HT_.out (by kernel_rfl)) (fun _ _ _ h => h) (Or.inl ⟨by rfl, ?_⟩) ?_ ?_
 rotate_left
 ·intro w'
  go_simp
  with_reducible rfl
 rotate_left
 ·simp only [Act.put, sA, sB, sC, i64_w, i32_w]
  rfl
 refine inv_at [1, 3, 4, 5, 6, 7] (fun a0_ b a w' => a = Ya a0_ b [(1, 10, .int .i64 (wrap64 (2 * a1))), (3, 12, .int .i64 c), (4, 13, .int .u8 (bt (⟨#[40, 91, 41, 93, 97, 98]⟩ : ByteArray) c)), (5, 14, .string sy), (6, 15, .int .u8 (bt sy 0)), (7, 16, .bool (decide (bt (⟨#[40, 91, 41, 93, 97, 98]⟩ : ByteArray) c = bt sy 0)))] ∧ (Below w.heap.size w w')) HT_.out HW_.out (by kernel_rfl) (by kernel_rfl) ?_ ?_ ?_
 ·exact ⟨by simp only [Ya, Bool.false_eq_true, if_false], HW.out⟩
 ·skip
  clear HW
  refine Za ?_ ?_
  ·rintro b a w' ⟨ha, Q_HW⟩ hb_ hon hoff
   refine ⟨_, rfl, fun K hK => ?_⟩
   have e9 : a.tmps[9]? = some (.int .i64 a1) := xH_ ha rfl rfl
   replace ha := AZ.mk ha
   refine Zw (w1 := w') (v := .int .i64 (wrap64 (2 * a1))) (by rfl) rfl (by go_simp; (try simp only [i64_w]); try rfl) ?_
   refine hK.out _ _ ⟨(xI_ ha.out 0 hb_ rfl rfl rfl), Q_HW⟩
  refine Za ?_ ?_
  ·rintro b a w' ⟨ha, Q_HW⟩ hb_ hon hoff
   refine ⟨_, rfl, fun K hK => ?_⟩
   have e10 := xG_ ha 0 rfl (hon 1 rfl) rfl rfl
   have e11 : a.tmps[11]? = some (.int .i64 a2) := xH_ ha rfl rfl
   replace ha := AZ.mk ha
   refine Zw (w1 := w') (v := .int .i64 c) (by rfl) rfl (by go_simp; (try simp only [i64_w]); try rfl) ?_
   refine hK.out _ _ ⟨(xI_ ha.out 1 hb_ rfl rfl rfl), Q_HW⟩
  refine Za ?_ ?_
  ·rintro b a w' ⟨ha, Q_HW⟩ hb_ hon hoff
   refine ⟨_, rfl, fun K hK => ?_⟩
   have e12 := xG_ ha 1 rfl (hon 3 rfl) rfl rfl
   replace ha := AZ.mk ha
   refine Zw (w1 := w') (v := .int .u8 (bt (⟨#[40, 91, 41, 93, 97, 98]⟩ : ByteArray) c)) (by rfl) rfl (by go_simp; (try simp only [i64_w]); try rfl) ?_
   refine hK.out _ _ ⟨(xI_ ha.out 2 hb_ rfl rfl rfl), Q_HW⟩
  refine Za ?_ ?_
  ·rintro b a w' ⟨ha, Q_HW⟩ hb_ hon hoff
   refine ⟨_, rfl, fun K hK => ?_⟩
   have e3 : a.tmps[3]? = some (.pointer (some ⟨gS, 0, none⟩)) := xH_ ha rfl rfl
   replace ha := AZ.mk ha
   have HW := AZ.mk Q_HW
   have hc_ := rdc HW.out Ks.out
   refine Zw (w1 := w') (v := .string sy) (by rfl) rfl (by go_simp; (try simp only [i64_w]); try rfl) ?_
   refine hK.out _ _ ⟨(xI_ ha.out 3 hb_ rfl rfl rfl), Q_HW⟩
  refine Za ?_ ?_
  ·rintro b a w' ⟨ha, Q_HW⟩ hb_ hon hoff
   refine ⟨_, rfl, fun K hK => ?_⟩
   have e14 := xG_ ha 3 rfl (hon 5 rfl) rfl rfl
   replace ha := AZ.mk ha
   refine Zw (w1 := w') (v := .int .u8 (bt sy 0)) (by rfl) rfl (by go_simp; (try simp only [i64_w]); try rfl) ?_
   refine hK.out _ _ ⟨(xI_ ha.out 4 hb_ rfl rfl rfl), Q_HW⟩
  refine Za ?_ ?_
  ·rintro b a w' ⟨ha, Q_HW⟩ hb_ hon hoff
   refine ⟨_, rfl, fun K hK => ?_⟩
   have e13 := xG_ ha 2 rfl (hon 4 rfl) rfl rfl
   have e15 := xG_ ha 4 rfl (hon 6 rfl) rfl rfl
   replace ha := AZ.mk ha
   refine Zw (w1 := w') (v := .bool (decide (bt (⟨#[40, 91, 41, 93, 97, 98]⟩ : ByteArray) c = bt sy 0))) (by rfl) rfl (by go_simp; (try simp only [i64_w]); try rfl) ?_
   refine hK.out _ _ ⟨(xI_ ha.out 5 hb_ rfl rfl rfl), Q_HW⟩
  exact steps_nil
 ·rintro b a w' hall ⟨ha, Q_HW⟩
  clear HW
  have hb1_ := hall 1 (by kernel_rfl)
  have hb3_ := hall 3 (by kernel_rfl)
  have hb4_ := hall 4 (by kernel_rfl)
  have hb5_ := hall 5 (by kernel_rfl)
  have hb6_ := hall 6 (by kernel_rfl)
  have hb7_ := hall 7 (by kernel_rfl)
  subst ha
  simp only [Ya, hb1_, hb3_, hb4_, hb5_, hb6_, hb7_, if_true, Act.put, sA, sB, sC]
  have HW := AZ.mk Q_HW
  clear Q_HW
  clear hall hb1_ hb3_ hb4_ hb5_ hb6_ hb7_
  clear hHeld HT_ HW_
  have hm_ := rdc HW.out Km.out
  by_cases hb : bt (⟨#[40, 91, 41, 93, 97, 98]⟩ : ByteArray) c = bt sy 0
  ·have hb_ : decide (bt (⟨#[40, 91, 41, 93, 97, 98]⟩ : ByteArray) c = bt sy 0) = true := dT hb
   rw [if_pos hb] at hr
   have HR := AZ.mk hr
   rw [hb_]
   clear hb hb_ hr
   go_wp2
   go_ret
   exact ⟨by rw [← HR.out]; rfl, HW.out⟩
  ·have hb_ : decide (bt (⟨#[40, 91, 41, 93, 97, 98]⟩ : ByteArray) c = bt sy 0) = false := dF hb
   rw [if_neg hb] at hr
   have HR := AZ.mk hr
   rw [hb_]
   clear hb hb_ hr
   go_wp2
   go_ret
   exact ⟨by rw [← HR.out]; rfl, HW.out⟩
def nx (x m : Int) (s c : Nat) : Int := if bt (⟨#[40, 91, 41, 93, 97, 98]⟩ : ByteArray) (c : Int) = x then Int.tmod ((s : Int) + 1) m else Int.tmod (s : Int) m
def acc : Nat → Bool := fun s => decide ((s : Int) = 0)
def call (x m : Int) : Nat → Nat → S47 := fun s q => ⟨nx x m s q, 0⟩
def back (x m : Int) : Nat → Nat → Nat → Int := fun s q _ => nx x m s (2 + q)
def inner (x m : Int) : Nat → Nat → Int := fun s q => nx x m s (4 + q)
theorem next_at (g s q : Nat) (hg : g < 3) (hq : q < 2) (m : Int) (sy : ByteArray) (hsy : sy.size = 1) (gS gM : Nat) (w : World) (bS : w.heap[gS]? = some (.cells #[.string sy] 9 (0, 0))) (bM : w.heap[gM]? = some (.cells #[.int .i64 m] 2 (0, 0))) (h1 : s ≤ 40) (hm : m ≠ 0) :
  Calls Try.prog 61 #[.int .i64 (s : Int), .int .i64 (g : Int), .int .i64 (q : Int), .pointer (some ⟨gS, 0, none⟩), .pointer (some ⟨gM, 0, none⟩)] w fun e w' => e = .returned (.int .i64 (nx (bt sy 0) m s (2 * g + q))) ∧ Below w.heap.size w w' :=
 next_calls (s : Int) (g : Int) (q : Int) ((2 * g + q : Nat) : Int) m sy hsy gS gM w bS bM (by omega) (by omega) hm (by rw [bw' (2 * (g : Int)) (by omega) (by omega), bw' _ (by omega) (by omega)]; omega) (by omega) (by omega) _ rfl
theorem acc_calls (s : Nat) (w : World) : Calls Try.prog 62 #[.int .i64 (s : Int)] w fun e w' => e = .returned (.bool (acc s)) ∧ Below w.heap.size w w' := by
 go_enter Try.func62, Try.ntmps62
 go_wp2
 go_ret
 exact ⟨rfl, Below.refl _ _⟩
theorem call_calls (s q : Nat) (hq : q < 2) (m : Int) (sy : ByteArray) (hsy : sy.size = 1) (gS gM gF : Nat) (w : World) (bS : w.heap[gS]? = some (.cells #[.string sy] 9 (0, 0))) (bM : w.heap[gM]? = some (.cells #[.int .i64 m] 2 (0, 0))) (bF : w.heap[gF]? = some (.cells #[.func (.func 61) #[] #[.pointer (some ⟨gS, 0, none⟩), .pointer (some ⟨gM, 0, none⟩)]] 69 (0, 0))) (h1 : s ≤ 40) (hm : m ≠ 0) :
  Calls Try.prog 63 #[.int .i64 (s : Int), .int .i64 (q : Int), .pointer (some ⟨gF, 0, none⟩)] w fun e w' => e = .returned (.agg #[.int .i64 (call (bt sy 0) m s q).f0, .int .i64 (call (bt sy 0) m s q).f1]) ∧ Below w.heap.size w w' := by
 have hu47 := Try.underlying47
 have KF := AZ.mk (show w.cell? ⟨gF, 0, none⟩ = some (.func (.func 61) #[] #[.pointer (some ⟨gS, 0, none⟩), .pointer (some ⟨gM, 0, none⟩)]) from (bc bF 0).trans rfl)
 have HW := AZ.mk (Below.refl w.heap.size w)
 have BS := AZ.mk bS
 have BM := AZ.mk bM
 have HQ := AZ.mk hq
 have HSY := AZ.mk hsy
 have H1 := AZ.mk h1
 have HM := AZ.mk hm
 clear bS bM bF hq hsy h1 hm
 go_enter Try.func63, Try.ntmps63
 go_wp2_with (first | ((with_reducible refine Zb (N := 5) rfl ?_); refine Zc rfl (N := 5) rfl (cs := #[.int .i64 0, .int .i64 0]) (t := 47) (by go_simp; try rfl) ?_; intro gZ hg WgZ hbx hb; have n9_ := AZ.mk hbx; have GZ := AZ.mk (show w.heap.size ≤ gZ by rw [hg]; exact pZ HW.out); clear hbx hg; replace HW := AZ.mk (pT HW.out hb); clear hb; have BZ := n9_; clear n9_; have hcf := rdc HW.out KF.out) | ((with_reducible refine gate_value (t := 6) rfl ?_); refine goesVL_ (some 9) rfl rfl Try.func61 (by kernel_rfl) rfl #[.int .i64 (s : Int), .int .i64 0, .int .i64 (q : Int)] _ rfl (by rfl) (by (try simp only [mA, mB, mC]); first | done | rfl) rfl ?_; refine (next_at 0 s q (by decide) HQ.out m sy HSY.out gS gM _ (bb_ BS.out HW.out) (bb_ BM.out HW.out) H1.out HM.out).mono ?_; rintro e W9 ⟨rfl, hb⟩; refine ⟨_, rfl, ?_⟩; have n0_ := AZ.mk (pT HW.out hb); have n1_ := AZ.mk (bb_ BZ.out hb); clear HW hb BZ; have HW := n0_; clear n0_; have BZ := n1_; clear n1_) | ((with_reducible refine gate_ (.store 47 (.tmp 5) (.tmp 10)) rfl ?_); refine store47 rfl 5 10 rfl (g := gZ) (old := #[.int .i64 0, .int .i64 0]) (cs := #[.int .i64 (nx (bt sy 0) m s q), .int .i64 0]) rfl rfl BZ.out rfl rfl (two_one _ _) ?_; intro w9 hbx hB hfar))
 refine bodyPost_ret (results_cell_row rfl _ _ gZ 47 #[.int .i64 (nx (bt sy 0) m s q), .int .i64 0] (0, 0) _ rfl hbx Try.underlying47 rfl (by kernel_rfl)) rfl ?_
 exact ⟨rfl, hB _ _ HW.out GZ.out⟩
theorem back_calls (s q : Nat) (hq : q < 2) (y m : Int) (sy : ByteArray) (hsy : sy.size = 1) (gS gM gF : Nat) (w : World) (bS : w.heap[gS]? = some (.cells #[.string sy] 9 (0, 0))) (bM : w.heap[gM]? = some (.cells #[.int .i64 m] 2 (0, 0))) (bF : w.heap[gF]? = some (.cells #[.func (.func 61) #[] #[.pointer (some ⟨gS, 0, none⟩), .pointer (some ⟨gM, 0, none⟩)]] 69 (0, 0))) (h1 : s ≤ 40) (hm : m ≠ 0) :
  Calls Try.prog 64 #[.int .i64 (s : Int), .int .i64 (q : Int), .int .i64 y, .pointer (some ⟨gF, 0, none⟩)] w fun e w' => e = .returned (.int .i64 (nx (bt sy 0) m s (2 * 1 + q))) ∧ Below w.heap.size w w' := by
 have hcf := (bc bF 0 : w.cell? ⟨gF, 0, none⟩ = _).trans rfl
 have HW := AZ.mk (Below.refl w.heap.size w)
 have BS := AZ.mk bS
 have BM := AZ.mk bM
 have HQ := AZ.mk hq
 have HSY := AZ.mk hsy
 have H1 := AZ.mk h1
 have HM := AZ.mk hm
 clear bS bM bF hq hsy h1 hm
 go_enter Try.func64, Try.ntmps64
 go_wp2_with (first | ((with_reducible refine gate_value (t := 8) rfl ?_); refine goesVL_ (some 11) rfl rfl Try.func61 (by kernel_rfl) rfl #[.int .i64 (s : Int), .int .i64 1, .int .i64 (q : Int)] _ rfl (by rfl) (by (try simp only [mA, mB, mC]); first | done | rfl) rfl ?_; refine (next_at 1 s q (by decide) HQ.out m sy HSY.out gS gM _ (bb_ BS.out HW.out) (bb_ BM.out HW.out) H1.out HM.out).mono ?_; rintro e W9 ⟨rfl, hb⟩; refine ⟨_, rfl, ?_⟩; replace HW := AZ.mk (pT HW.out hb); clear hb))
 go_ret
 exact ⟨rfl, HW.out⟩
theorem inner_calls (s q : Nat) (hq : q < 2) (m : Int) (sy : ByteArray) (hsy : sy.size = 1) (gS gM gF : Nat) (w : World) (bS : w.heap[gS]? = some (.cells #[.string sy] 9 (0, 0))) (bM : w.heap[gM]? = some (.cells #[.int .i64 m] 2 (0, 0))) (bF : w.heap[gF]? = some (.cells #[.func (.func 61) #[] #[.pointer (some ⟨gS, 0, none⟩), .pointer (some ⟨gM, 0, none⟩)]] 69 (0, 0))) (h1 : s ≤ 40) (hm : m ≠ 0) :
  Calls Try.prog 65 #[.int .i64 (s : Int), .int .i64 (q : Int), .pointer (some ⟨gF, 0, none⟩)] w fun e w' => e = .returned (.int .i64 (nx (bt sy 0) m s (2 * 2 + q))) ∧ Below w.heap.size w w' := by
 have hcf := (bc bF 0 : w.cell? ⟨gF, 0, none⟩ = _).trans rfl
 have HW := AZ.mk (Below.refl w.heap.size w)
 have BS := AZ.mk bS
 have BM := AZ.mk bM
 have HQ := AZ.mk hq
 have HSY := AZ.mk hsy
 have H1 := AZ.mk h1
 have HM := AZ.mk hm
 clear bS bM bF hq hsy h1 hm
 go_enter Try.func65, Try.ntmps65
 go_wp2_with (first | ((with_reducible refine gate_value (t := 6) rfl ?_); refine goesVL_ (some 9) rfl rfl Try.func61 (by kernel_rfl) rfl #[.int .i64 (s : Int), .int .i64 2, .int .i64 (q : Int)] _ rfl (by rfl) (by (try simp only [mA, mB, mC]); first | done | rfl) rfl ?_; refine (next_at 2 s q (by decide) HQ.out m sy HSY.out gS gM _ (bb_ BS.out HW.out) (bb_ BM.out HW.out) H1.out HM.out).mono ?_; rintro e W9 ⟨rfl, hb⟩; refine ⟨_, rfl, ?_⟩; replace HW := AZ.mk (pT HW.out hb); clear hb))
 go_ret
 exact ⟨rfl, HW.out⟩
theorem impl_ok (kv : Nat) (sy : ByteArray) (hsy : sy.size = 1) (hv : impl_ValidWord.f kv sy = some true) (mN : Nat) (h1 : 1 ≤ mN) (h40 : mN ≤ 40) (w : World) : Calls Try.prog 20 #[.string sy, .int .i64 (mN : Int)] w fun e w' => ∃ vA vC vR vI : Value, e = .returned (.tuple #[.agg #[.int .i64 1, .int .i64 0, vA, vC, vR, vI], .int .i64 0]) ∧ OwnC w' w.heap.size vA vC vR vI (LAs acc mN) (LCs (call (bt sy 0) mN) mN) (LRs 1 (back (bt sy 0) mN) mN) (LIs (inner (bt sy 0) mN) mN) ∧ Below w.heap.size w w' := by
 have hu27 := Try.underlying27
 have HIN := AZ.mk (show impl_within.f (mN : Int) 1 40 = some true by unfold impl_within.f; rw [if_pos (by omega), dT (by omega)])
 have HV := AZ.mk hv
 have HSY := AZ.mk hsy
 have HM := AZ.mk (show 1 ≤ mN ∧ mN ≤ 40 from ⟨h1, h40⟩)
 have hs1 : (sy.size : Int) = 1 := by omega
 have HW := AZ.mk (Below.refl w.heap.size w)
 clear hv hsy h1 h40
 go_enter Try.func20, Try.ntmps20
 go_wp2_with (first | ((with_reducible refine Zb (N := 2) rfl ?_); refine Zc rfl (N := 2) rfl (cs := #[.string sy]) (t := 9) (by go_simp; try rfl) ?_; intro gS hg WgS hbx hb; have n9_ := AZ.mk hbx; have GS := AZ.mk (show w.heap.size ≤ gS by rw [hg]; exact pZ HW.out); clear hbx hg; replace HW := AZ.mk (pT HW.out hb); clear hb; have BS := n9_; clear n9_) | ((with_reducible refine Zb (N := 3) rfl ?_); refine Zc rfl (N := 3) rfl (cs := #[.int .i64 (mN : Int)]) (t := 2) (by go_simp; try rfl) ?_; intro gM hg WgM hbx hb; have n9_ := AZ.mk hbx; have GM := AZ.mk (show w.heap.size ≤ gM by rw [hg]; exact pZ HW.out); clear hbx hg; replace HW := AZ.mk (pT HW.out hb); replace BS := AZ.mk (bb_ BS.out hb); clear hb; have BM := n9_; clear n9_) | ((with_reducible refine Zb (N := 4) rfl ?_); refine Zc rfl (N := 4) rfl (cs := cZ) (t := 27) (by go_simp; try rfl) ?_; intro gZ hg WgZ hbx hb; have n9_ := AZ.mk hbx; have GZ := AZ.mk (show w.heap.size ≤ gZ by rw [hg]; exact pZ HW.out); clear hbx hg; replace HW := AZ.mk (pT HW.out hb); replace BS := AZ.mk (bb_ BS.out hb); replace BM := AZ.mk (bb_ BM.out hb); clear hb; have BZ := n9_; clear n9_; have hcs := (bc BS.out 0).trans rfl; have hcm := (bc BM.out 0).trans rfl) | ((with_reducible refine gate_callee (f := 60) rfl ?_); (try (refine gate_guard (by rfl) ?_; dsimp only)); refine Zs (some 12) rfl rfl Try.func60 (by kernel_rfl) rfl #[.string sy] rfl (by (try simp only [mA, mB, mC]); first | done | rfl) ?_; refine (impl_ValidWord.calls kv sy true _ HV.out).mono ?_; rintro e W12 ⟨rfl, hd⟩; refine ⟨_, rfl, ?_⟩; have hb := hd.below; clear hcs hcm; replace HW := AZ.mk (pT HW.out hb); replace BS := AZ.mk (bb_ BS.out hb); replace BM := AZ.mk (bb_ BM.out hb); replace BZ := AZ.mk (bb_ BZ.out hb); clear hb hd; have hcs := (bc BS.out 0).trans rfl; have hcm := (bc BM.out 0).trans rfl) | ((with_reducible refine gate_callee (f := 54) rfl ?_); (try (refine gate_guard (by rfl) ?_; dsimp only)); refine Zs (some 17) rfl rfl Try.func54 (by kernel_rfl) rfl #[.int .i64 (mN : Int), .int .i64 1, .int .i64 40] rfl (by (try simp only [mA, mB, mC]); first | done | rfl) ?_; refine (impl_within.calls (mN : Int) 1 40 true _ HIN.out).mono ?_; rintro e W17 ⟨rfl, hd⟩; refine ⟨_, rfl, ?_⟩; have hb := hd.below; clear hcs hcm; replace HW := AZ.mk (pT HW.out hb); replace BS := AZ.mk (bb_ BS.out hb); replace BM := AZ.mk (bb_ BM.out hb); replace BZ := AZ.mk (bb_ BZ.out hb); clear hb hd; have hcs := (bc BS.out 0).trans rfl; have hcm := (bc BM.out 0).trans rfl) | ((with_reducible refine Zb (N := 6) rfl ?_); refine Zc rfl (N := 6) rfl (cs := #[.nilFunc]) (t := 69) (by go_simp; try rfl) ?_; intro gF hg WgF hbx hb; have n9_ := AZ.mk hbx; have GF := AZ.mk (show w.heap.size ≤ gF by rw [hg]; exact pZ HW.out); have NEBS := AZ.mk (show gS ≠ gF by rw [hg]; exact nL (Yb BS.out)); have NEBM := AZ.mk (show gM ≠ gF by rw [hg]; exact nL (Yb BM.out)); have NEBZ := AZ.mk (show gZ ≠ gF by rw [hg]; exact nL (Yb BZ.out)); clear hbx hg; replace HW := AZ.mk (pT HW.out hb); replace BS := AZ.mk (bb_ BS.out hb); replace BM := AZ.mk (bb_ BM.out hb); replace BZ := AZ.mk (bb_ BZ.out hb); clear hb; have BF0 := n9_; clear n9_; try clear hcs hcm; have hcs := (bc BS.out 0).trans rfl; have hcm := (bc BM.out 0).trans rfl) | ((with_reducible refine gate_ (.store 69 (.tmp 6) (.tmp 21)) rfl ?_); have hc_ := (bc BF0.out 0).trans rfl; have hf_ := bf BF0.out 0; refine store_event (t := 69) (p := 6) (v := .tmp 21) (w1 := (WgF.setCell ⟨gF, 0, none⟩ (.func (.func 61) #[] #[.pointer (some ⟨gS, 0, none⟩), .pointer (some ⟨gM, 0, none⟩)]))) ?hg ?ho ?hn ?hr ?_; (case ho => rfl); (case hg => rfl); (case hn => rfl); (case hr => go_simp; rw [run_store _ _ _ _ _ rfl]; go_simp; try rfl); intro w9 hw9; clear hc_ hf_; replace HW := AZ.mk (show Below w.heap.size w w9 by rw [hw9]; exact pS HW.out GF.out); replace BS := AZ.mk (show w9.heap[gS]? = some (.cells #[.string sy] 9 (0, 0)) by rw [hw9]; exact (Below.heap_setCell _ _ _ _ NEBS.out).trans BS.out); replace BM := AZ.mk (show w9.heap[gM]? = some (.cells #[.int .i64 (mN : Int)] 2 (0, 0)) by rw [hw9]; exact (Below.heap_setCell _ _ _ _ NEBM.out).trans BM.out); replace BZ := AZ.mk (show w9.heap[gZ]? = some (.cells cZ 27 (0, 0)) by rw [hw9]; exact (Below.heap_setCell _ _ _ _ NEBZ.out).trans BZ.out); have BF := AZ.mk (show w9.heap[gF]? = some (.cells #[.func (.func 61) #[] #[.pointer (some ⟨gS, 0, none⟩), .pointer (some ⟨gM, 0, none⟩)]] 69 (0, 0)) by rw [hw9]; exact blk_put BF0.out 0 _ rfl); clear BF0 hw9; try clear hcs hcm; have hcs := (bc BS.out 0).trans rfl; have hcm := (bc BM.out 0).trans rfl) | ((with_reducible refine gate_callee (f := 29) rfl ?_); refine Zs (some 26) rfl rfl Try.func29 (by kernel_rfl) rfl #[.int .i64 (mN : Int), .int .i64 1, .int .i64 0, .func (.func 62) #[] #[], .func (.func 63) #[] #[.pointer (some ⟨gF, 0, none⟩)], .func (.func 64) #[] #[.pointer (some ⟨gF, 0, none⟩)], .func (.func 65) #[] #[.pointer (some ⟨gF, 0, none⟩)]] rfl (by (try simp only [mA, mB, mC]); first | done | rfl) ?_; refine (built_walk mN 1 0 _ (by have := HM.out; omega) (by decide) acc (call (bt sy 0) mN) (back (bt sy 0) mN) (inner (bt sy 0) mN) 62 63 64 65 _ _ _ _ #[] #[.pointer (some ⟨gF, 0, none⟩)] #[.pointer (some ⟨gF, 0, none⟩)] #[.pointer (some ⟨gF, 0, none⟩)] Try.func62 (by kernel_rfl) rfl Try.func63 (by kernel_rfl) rfl Try.func64 (by kernel_rfl) rfl Try.func65 (by kernel_rfl) rfl ?HA ?HC ?HR ?HI).mono ?_; (case HA => intro s W hs hbW; exact acc_calls s W); (case HC => intro s q W hs hq hbW; exact call_calls s q hq (mN : Int) sy HSY.out gS gM gF W (bb_ BS.out hbW) (bb_ BM.out hbW) (bb_ BF.out hbW) (by have := HM.out; omega) (by have := HM.out; omega)); (case HR => intro s q x W hs hq hx hbW; exact back_calls s q hq (x : Int) (mN : Int) sy HSY.out gS gM gF W (bb_ BS.out hbW) (bb_ BM.out hbW) (bb_ BF.out hbW) (by have := HM.out; omega) (by have := HM.out; omega)); (case HI => intro s q W hs hq hbW; exact inner_calls s q hq (mN : Int) sy HSY.out gS gM gF W (bb_ BS.out hbW) (bb_ BM.out hbW) (bb_ BF.out hbW) (by have := HM.out; omega) (by have := HM.out; omega)); rintro e w2 ⟨vA, vC, vR, vI, rfl, hO, hb⟩; refine ⟨_, rfl, ?_⟩; have HO := AZ.mk hO; have G1 := AZ.mk (Yb BZ.out); replace HW := AZ.mk (pT HW.out hb); replace BZ := AZ.mk (bb_ BZ.out hb); clear hO hb hcs hcm BS BM BF) | ((with_reducible refine gate_ (.store 27 (.tmp 4) (.tmp 26)) rfl ?_); refine store27 rfl 4 26 rfl (g := gZ) (old := cZ) (cs := Yc 1 0 vA vC vR vI) rfl rfl BZ.out rfl rfl (cellsI_one _ _ (Reads.own HO.out)) ?_; intro w9 hbx hB hfar))
 refine bodyPost_ret (results_ct rfl _ _ gZ 27 (Yc 1 0 vA vC vR vI) (0, 0) _ rfl hbx Try.underlying27 rfl (by kernel_rfl)) rfl ?_
 refine ⟨vA, vC, vR, vI, rfl, ?_, hB _ _ HW.out GZ.out⟩
 exact own_far HO.out (fun k hk => hfar k (by have := G1.out; omega)) (by have := GZ.out; have := G1.out; omega : w.heap.size ≤ _)
theorem impl_bad1 (kv : Nat) (sy : ByteArray) (a : Int) (hn : sy.size ≠ 1) (w : World) : Calls Try.prog 20 #[.string sy, .int .i64 a] w fun e w' => ∃ vA vC vR vI : Value, e = .returned (.tuple #[.agg #[.int .i64 0, .int .i64 0, vA, vC, vR, vI], .int .i64 2]) ∧ OwnC w' w.heap.size vA vC vR vI [] [] [] [] ∧ Below w.heap.size w w' := by
 have hu27 := Try.underlying27
 have hs1 : ((sy.size : Int) == 1) = false := beq_eq_false_iff_ne.mpr (by omega)
 have hs2 : ((sy.size : Int) != 1) = true := bne_iff_ne.mpr (by omega)
 have hs3 := eq_false (show ¬ (sy.size : Int) = 1 by omega)
 clear hn
 have HW := AZ.mk (Below.refl w.heap.size w)
 go_enter Try.func20, Try.ntmps20
 go_wp2_with (first | ((with_reducible refine Zb (N := 2) rfl ?_); refine Zc rfl (N := 2) rfl (cs := #[.string sy]) (t := 9) (by go_simp; try rfl) ?_; intro gS hg WgS hbx hb; have n9_ := AZ.mk hbx; have GS := AZ.mk (show w.heap.size ≤ gS by rw [hg]; exact pZ HW.out); clear hbx hg; replace HW := AZ.mk (pT HW.out hb); clear hb; have BS := n9_; clear n9_) | ((with_reducible refine Zb (N := 3) rfl ?_); refine Zc rfl (N := 3) rfl (cs := #[.int .i64 a]) (t := 2) (by go_simp; try rfl) ?_; intro gM hg WgM hbx hb; have n9_ := AZ.mk hbx; have GM := AZ.mk (show w.heap.size ≤ gM by rw [hg]; exact pZ HW.out); clear hbx hg; replace HW := AZ.mk (pT HW.out hb); replace BS := AZ.mk (bb_ BS.out hb); clear hb; have BM := n9_; clear n9_) | ((with_reducible refine Zb (N := 4) rfl ?_); refine Zc rfl (N := 4) rfl (cs := cZ) (t := 27) (by go_simp; try rfl) ?_; intro gZ hg WgZ hbx hb; have n9_ := AZ.mk hbx; have GZ := AZ.mk (show w.heap.size ≤ gZ by rw [hg]; exact pZ HW.out); clear hbx hg; replace HW := AZ.mk (pT HW.out hb); replace BS := AZ.mk (bb_ BS.out hb); replace BM := AZ.mk (bb_ BM.out hb); clear hb; have BZ := n9_; clear n9_; have hcs := (bc BS.out 0).trans rfl; have hcm := (bc BM.out 0).trans rfl) | ((with_reducible refine gate_ (.store 27 (.tmp 4) (.tmp 20)) rfl ?_); refine store27 rfl 4 20 rfl (g := gZ) (old := cZ) (cs := cZ) rfl rfl BZ.out rfl rfl (cells4_one 0 0 none none none none 0 0 0 0 0 0 0 0) ?_; intro w9 hbx hB hfar))
 refine bodyPost_ret (results_ct rfl _ _ gZ 27 cZ (0, 0) _ rfl hbx Try.underlying27 rfl (by kernel_rfl)) rfl ?_
 exact ⟨Zx, Zx, Zx, Zx, rfl, own_nil' _ _, hB _ _ HW.out GZ.out⟩
theorem impl_bad2 (kv : Nat) (sy : ByteArray) (a : Int) (hsy : sy.size = 1) (hv : impl_ValidWord.f kv sy = some false) (w : World) : Calls Try.prog 20 #[.string sy, .int .i64 a] w fun e w' => ∃ vA vC vR vI : Value, e = .returned (.tuple #[.agg #[.int .i64 0, .int .i64 0, vA, vC, vR, vI], .int .i64 2]) ∧ OwnC w' w.heap.size vA vC vR vI [] [] [] [] ∧ Below w.heap.size w w' := by
 have hu27 := Try.underlying27
 have hs1 : (sy.size : Int) = 1 := by omega
 have HV := AZ.mk hv
 clear hv hsy
 have HW := AZ.mk (Below.refl w.heap.size w)
 go_enter Try.func20, Try.ntmps20
 go_wp2_with (first | ((with_reducible refine Zb (N := 2) rfl ?_); refine Zc rfl (N := 2) rfl (cs := #[.string sy]) (t := 9) (by go_simp; try rfl) ?_; intro gS hg WgS hbx hb; have n9_ := AZ.mk hbx; have GS := AZ.mk (show w.heap.size ≤ gS by rw [hg]; exact pZ HW.out); clear hbx hg; replace HW := AZ.mk (pT HW.out hb); clear hb; have BS := n9_; clear n9_) | ((with_reducible refine Zb (N := 3) rfl ?_); refine Zc rfl (N := 3) rfl (cs := #[.int .i64 a]) (t := 2) (by go_simp; try rfl) ?_; intro gM hg WgM hbx hb; have n9_ := AZ.mk hbx; have GM := AZ.mk (show w.heap.size ≤ gM by rw [hg]; exact pZ HW.out); clear hbx hg; replace HW := AZ.mk (pT HW.out hb); replace BS := AZ.mk (bb_ BS.out hb); clear hb; have BM := n9_; clear n9_) | ((with_reducible refine Zb (N := 4) rfl ?_); refine Zc rfl (N := 4) rfl (cs := cZ) (t := 27) (by go_simp; try rfl) ?_; intro gZ hg WgZ hbx hb; have n9_ := AZ.mk hbx; have GZ := AZ.mk (show w.heap.size ≤ gZ by rw [hg]; exact pZ HW.out); clear hbx hg; replace HW := AZ.mk (pT HW.out hb); replace BS := AZ.mk (bb_ BS.out hb); replace BM := AZ.mk (bb_ BM.out hb); clear hb; have BZ := n9_; clear n9_; have hcs := (bc BS.out 0).trans rfl; have hcm := (bc BM.out 0).trans rfl) | ((with_reducible refine gate_callee (f := 60) rfl ?_); (try (refine gate_guard (by rfl) ?_; dsimp only)); refine Zs (some 12) rfl rfl Try.func60 (by kernel_rfl) rfl #[.string sy] rfl (by (try simp only [mA, mB, mC]); first | done | rfl) ?_; refine (impl_ValidWord.calls kv sy false _ HV.out).mono ?_; rintro e W12 ⟨rfl, hd⟩; refine ⟨_, rfl, ?_⟩; have hb := hd.below; clear hcs hcm; replace HW := AZ.mk (pT HW.out hb); replace BS := AZ.mk (bb_ BS.out hb); replace BM := AZ.mk (bb_ BM.out hb); replace BZ := AZ.mk (bb_ BZ.out hb); clear hb hd; have hcs := (bc BS.out 0).trans rfl; have hcm := (bc BM.out 0).trans rfl) | ((with_reducible refine gate_ (.store 27 (.tmp 4) (.tmp 20)) rfl ?_); refine store27 rfl 4 20 rfl (g := gZ) (old := cZ) (cs := cZ) rfl rfl BZ.out rfl rfl (cells4_one 0 0 none none none none 0 0 0 0 0 0 0 0) ?_; intro w9 hbx hB hfar))
 refine bodyPost_ret (results_ct rfl _ _ gZ 27 cZ (0, 0) _ rfl hbx Try.underlying27 rfl (by kernel_rfl)) rfl ?_
 exact ⟨Zx, Zx, Zx, Zx, rfl, own_nil' _ _, hB _ _ HW.out GZ.out⟩
theorem impl_bad3 (kv : Nat) (sy : ByteArray) (a : Int) (hsy : sy.size = 1) (hv : impl_ValidWord.f kv sy = some true) (hi : impl_within.f a 1 40 = some false) (w : World) : Calls Try.prog 20 #[.string sy, .int .i64 a] w fun e w' => ∃ vA vC vR vI : Value, e = .returned (.tuple #[.agg #[.int .i64 0, .int .i64 0, vA, vC, vR, vI], .int .i64 2]) ∧ OwnC w' w.heap.size vA vC vR vI [] [] [] [] ∧ Below w.heap.size w w' := by
 have hu27 := Try.underlying27
 have hs1 : (sy.size : Int) = 1 := by omega
 have HV := AZ.mk hv
 have HIN := AZ.mk hi
 clear hv hsy hi
 have HW := AZ.mk (Below.refl w.heap.size w)
 go_enter Try.func20, Try.ntmps20
 go_wp2_with (first | ((with_reducible refine Zb (N := 2) rfl ?_); refine Zc rfl (N := 2) rfl (cs := #[.string sy]) (t := 9) (by go_simp; try rfl) ?_; intro gS hg WgS hbx hb; have n9_ := AZ.mk hbx; have GS := AZ.mk (show w.heap.size ≤ gS by rw [hg]; exact pZ HW.out); clear hbx hg; replace HW := AZ.mk (pT HW.out hb); clear hb; have BS := n9_; clear n9_) | ((with_reducible refine Zb (N := 3) rfl ?_); refine Zc rfl (N := 3) rfl (cs := #[.int .i64 a]) (t := 2) (by go_simp; try rfl) ?_; intro gM hg WgM hbx hb; have n9_ := AZ.mk hbx; have GM := AZ.mk (show w.heap.size ≤ gM by rw [hg]; exact pZ HW.out); clear hbx hg; replace HW := AZ.mk (pT HW.out hb); replace BS := AZ.mk (bb_ BS.out hb); clear hb; have BM := n9_; clear n9_) | ((with_reducible refine Zb (N := 4) rfl ?_); refine Zc rfl (N := 4) rfl (cs := cZ) (t := 27) (by go_simp; try rfl) ?_; intro gZ hg WgZ hbx hb; have n9_ := AZ.mk hbx; have GZ := AZ.mk (show w.heap.size ≤ gZ by rw [hg]; exact pZ HW.out); clear hbx hg; replace HW := AZ.mk (pT HW.out hb); replace BS := AZ.mk (bb_ BS.out hb); replace BM := AZ.mk (bb_ BM.out hb); clear hb; have BZ := n9_; clear n9_; have hcs := (bc BS.out 0).trans rfl; have hcm := (bc BM.out 0).trans rfl) | ((with_reducible refine gate_callee (f := 60) rfl ?_); (try (refine gate_guard (by rfl) ?_; dsimp only)); refine Zs (some 12) rfl rfl Try.func60 (by kernel_rfl) rfl #[.string sy] rfl (by (try simp only [mA, mB, mC]); first | done | rfl) ?_; refine (impl_ValidWord.calls kv sy true _ HV.out).mono ?_; rintro e W12 ⟨rfl, hd⟩; refine ⟨_, rfl, ?_⟩; have hb := hd.below; clear hcs hcm; replace HW := AZ.mk (pT HW.out hb); replace BS := AZ.mk (bb_ BS.out hb); replace BM := AZ.mk (bb_ BM.out hb); replace BZ := AZ.mk (bb_ BZ.out hb); clear hb hd; have hcs := (bc BS.out 0).trans rfl; have hcm := (bc BM.out 0).trans rfl) | ((with_reducible refine gate_callee (f := 54) rfl ?_); (try (refine gate_guard (by rfl) ?_; dsimp only)); refine Zs (some 17) rfl rfl Try.func54 (by kernel_rfl) rfl #[.int .i64 a, .int .i64 1, .int .i64 40] rfl (by (try simp only [mA, mB, mC]); first | done | rfl) ?_; refine (impl_within.calls a 1 40 false _ HIN.out).mono ?_; rintro e W17 ⟨rfl, hd⟩; refine ⟨_, rfl, ?_⟩; have hb := hd.below; clear hcs hcm; replace HW := AZ.mk (pT HW.out hb); replace BS := AZ.mk (bb_ BS.out hb); replace BM := AZ.mk (bb_ BM.out hb); replace BZ := AZ.mk (bb_ BZ.out hb); clear hb hd; have hcs := (bc BS.out 0).trans rfl; have hcm := (bc BM.out 0).trans rfl) | ((with_reducible refine gate_ (.store 27 (.tmp 4) (.tmp 20)) rfl ?_); refine store27 rfl 4 20 rfl (g := gZ) (old := cZ) (cs := cZ) rfl rfl BZ.out rfl rfl (cells4_one 0 0 none none none none 0 0 0 0 0 0 0 0) ?_; intro w9 hbx hB hfar))
 refine bodyPost_ret (results_ct rfl _ _ gZ 27 cZ (0, 0) _ rfl hbx Try.underlying27 rfl (by kernel_rfl)) rfl ?_
 exact ⟨Zx, Zx, Zx, Zx, rfl, own_nil' _ _, hB _ _ HW.out GZ.out⟩
end Count
end Go.Proofs.Ytepkfigcnnfoaaa.P
namespace Go.Proofs.Ytepkfigcnnfoaaa.P
open Go.RowKit Go.Proofs.YtepkfigcnnfoaaaW.PrintWords Go.Proofs.YtepkfigcnnfoaaaW.PrintLast Go.Proofs.YtepkfigcnnfoaaaW.PrintMore
attribute [local go_sem] Zk Zm Zu Zv Zg Zh Zn Zp
def spec_l00In.f (a0 : Int) (a1 : Int) (a2 : Int) : Option (Bool) := if a0 ≥ a1 then (some (decide (a0 ≤ a2))) else (some false)
theorem spec_l00In.calls (a0 : Int) (a1 : Int) (a2 : Int) (r : Bool) (w : World) (h : spec_l00In.f a0 a1 a2 = some r) :
  Calls Try.prog 50 #[.int .i64 a0, .int .i64 a1, .int .i64 a2] w fun e w' => e = .returned (.bool r) ∧ Drawn0 w w' := by
 have H : (if a0 ≥ a1 then (some (decide (a0 ≤ a2))) else (some false)) = some r := h
 clear h
 by_cases c4 : a0 ≥ a1
 ·rw [if_pos c4] at H
  have c4b0 : decide (a1 ≤ a0) = true := dT c4
  clear c4
  obtain rfl := oJ H
  go_enter Try.func50, Try.ntmps50
  go_wp2
  go_ret
  exact ⟨by first | rfl | (simp; done) | (simp [*]; done), by repeat (first | exact Drawn0.refl _ | apply Drawn0.step)⟩
 rw [if_neg c4] at H
 have c4b0 : decide (a1 ≤ a0) = false := dF c4
 clear c4
 obtain rfl := oJ H
 go_enter Try.func50, Try.ntmps50
 go_wp2
 go_ret
 exact ⟨by first | rfl | (simp; done) | (simp [*]; done), by repeat (first | exact Drawn0.refl _ | apply Drawn0.step)⟩
attribute [local go_sem] Zk Zm Zu Zv Zg Zh Zn Zp
def spec_l02Same.l0 : Nat → Int → Int → List Int → Int → Option (List Int)
 | 0, _, _, _, _ => none
 | k + 1, x0, x1, x5, x6 => if x6 < x1 then (if x5.length < 17592186044416 then (spec_l02Same.l0 k x0 x1 (x5 ++ [x0]) (wrap64 (x6 + 1))) else (none)) else (some x5)
def spec_l02Same.f (k : Nat) (a0 : Int) (a1 : Int) : Option (List Int) := spec_l02Same.l0 k a0 a1 (([] : List Int)) 0
theorem spec_l02Same.calls (k : Nat) (a0 : Int) (a1 : Int) (r : List Int) (w : World) (h : spec_l02Same.f k a0 a1 = some r) :
  Calls Try.prog 53 #[.int .i64 a0, .int .i64 a1] w fun e w' => ∃ v0_ : Value, e = .returned (v0_) ∧ Kd.R (Kd.int .i64) 2 w' w.heap.size (fun _ => True) v0_ r ∧ Below w.heap.size w w' := by
 have HB := AZ.mk (Below.refl w.heap.size w)
 have H : (spec_l02Same.l0 k a0 a1 (([] : List Int)) 0) = some r := h
 clear h
 obtain ⟨y282, hy282⟩ : ∃ y_ : List Int, y_ = (([] : List Int)) := ⟨_, rfl⟩
 replace H : (spec_l02Same.l0 k a0 a1 y282 0) = some r := by first | (rw [hy282]; with_reducible exact H) | (have H2_ := (Option.bind_some _ _).symm.trans H; rw [hy282]; with_reducible exact H2_) | (have H2_ := (Option.bind_some _ _).symm.trans H; with_reducible exact H2_) | with_reducible exact H | (rw [hy282]; exact H) | exact H
 have Ny282 := AZ.mk hy282
 clear hy282
 have H' := AZ.mk H
 clear H
 go_enter Try.func53, Try.ntmps53
 go_wp2_with (first | ((with_reducible refine Zb (N := 7) rfl ?_); refine Kd.R_lit (Kd.int .i64) _ 2 ?hg (N := 7) ?hd (xs := ([] : List Int)) (inner := []) (ok := fun _ => True) (okp := fun _ => True) ?hr ?hp (fun _ hk => hk) trivial (Below.refl _ _) (Nat.le_refl _) (by simp) ?_; (case hd => rfl); (case hg => rfl); (case hr => first | (go_simp; done) | (go_simp; rfl)); (case hp => exact (Reps.none _ _)); intro v283 w3 ho4 hb hg_ hnew_; clear hg_ hnew_; (first | rw [← Ny282.out] at ho4 | (simp only [Int.reduceToNat] at ho4; rw [← Ny282.out] at ho4)); have n0_ := AZ.mk (Kd.R_lower ho4 (pZ (by repeat (first | (with_reducible first | exact HB.out | apply pA | apply pN | apply pD) | exact HB.out)))); have n1_ := AZ.mk (pT (by repeat (first | (with_reducible first | exact HB.out | apply pA | apply pN | apply pD) | exact HB.out)) hb); clear HB; have HO284 := n0_; have HB := n1_; clear n0_ n1_; clear hb ho4))
 go_loopg [5, 6] k (fun kq v5 v6 w' => ∃ (x5_1 : List Int) (x6_1 : Int), v6 = .int .i64 x6_1 ∧ AZ (spec_l02Same.l0 kq a0 a1 x5_1 x6_1 = some r) ∧ AZ (kq ≤ k) ∧ AZ (Kd.R (Kd.int .i64) 2 w' w.heap.size (fun _ => True) v5 x5_1) ∧ AZ (Below w.heap.size w w'))
 case atStart => exact ⟨(y282), (0), (by first | rfl | (simp; done) | (simp [*]; done)), H', ⟨Nat.le_refl _⟩, ⟨by (with_reducible repeat (first | apply Kd.R_alloc | apply Kd.R_drewN | apply Kd.R_drew)); exact HO284.out⟩, ⟨by repeat (first | (with_reducible first | exact HB.out | apply pA | apply pN | apply pD) | exact HB.out)⟩⟩
 case round =>
  clear H'
  try clear p2
  obtain ⟨x5_1, x6_1, rfl, HA, HK1, HO_5, HB⟩ := hrel
  cases gk with
  | zero => exact absurd HA.out (by simp [spec_l02Same.l0])
  | succ k1 =>
   have H := HA.out
   clear HA
   simp only [spec_l02Same.l0] at H
   by_cases c5 : x6_1 < a1
   rotate_left
   ·rw [if_neg c5] at H
    have c5b0 : decide (x6_1 < a1) = false := dF c5
    clear c5
    obtain rfl := oJ H
    go_wp2
    go_ret
    exact ⟨_, by first | rfl | (simp [Zd, Ze] <;> rfl) | (simp [*, Zd, Ze] <;> rfl), by (with_reducible repeat (first | apply Kd.R_alloc | apply Kd.R_drewN | apply Kd.R_drew)); exact HO_5.out, by repeat (first | (with_reducible first | exact HB.out | apply pA | apply pN | apply pD) | exact HB.out)⟩
   rw [if_pos c5] at H
   have c5b0 : decide (x6_1 < a1) = true := dT c5
   clear c5
   by_cases c6 : x5_1.length < 17592186044416
   rotate_left
   ·rw [if_neg c6] at H
    exact absurd H (by simp)
   rw [if_pos c6] at H
   have LMc6 := AZ.mk c6
   clear c6
   obtain ⟨y285, hy285⟩ : ∃ y_ : List Int, y_ = (x5_1 ++ [a0]) := ⟨_, rfl⟩
   replace H : (spec_l02Same.l0 k1 a0 a1 y285 (wrap64 (x6_1 + 1))) = some r := by first | (rw [hy285]; with_reducible exact H) | (have H2_ := (Option.bind_some _ _).symm.trans H; rw [hy285]; with_reducible exact H2_) | (have H2_ := (Option.bind_some _ _).symm.trans H; with_reducible exact H2_) | with_reducible exact H | (rw [hy285]; exact H) | exact H
   have Ny285 := AZ.mk hy285
   clear hy285
   have H' := AZ.mk H
   clear H
   go_wp2_with (first | ((with_reducible refine gate_builtin (b := .append) (xs := #[.tmp 13, .tmp 15]) rfl ?_); at_builtin; refine Kd.R_append (Kd.int .i64) (w0 := w) w.heap.size rfl (.tmp 13) (.tmp 15) 49 2 (.int .i64 0) 8 rfl Try.underlying49 info2 rfl (by decide) (by omega) u5 x5_1 a0 [.int .i64 a0] (fun _ => True) (fun _ => False) rfl rfl ?aP (fun _ hk => hk.elim) ?aF ?aO ?aB ?aS ?aL ?_; (case aP => exact rfl); (case aB => exact (by repeat (first | (with_reducible first | exact HB.out | apply pA | apply pN | apply pD) | exact HB.out))); (case aF => exact (fun _ _ => trivial)); (case aO => exact (by (with_reducible repeat (first | apply Kd.R_alloc | apply Kd.R_drewN | apply Kd.R_drew)); exact HO_5.out)); (case aS => exact (pZ (by repeat (first | (with_reducible first | exact HB.out | apply pA | apply pN | apply pD) | exact HB.out)))); (case aL => have := LMc6.out; omega); intro v286 w7 ho hb hg hat; rw [← Ny285.out] at ho; have n0_ := AZ.mk (hb); have n1_ := AZ.mk (ho); clear HB; clear HO_5; have HB := n0_; have HO287 := n1_; clear n0_ n1_; clear ho hb hg hat))
   go_roundg k1
   case measure => have := HK1.out; omega
   case rel => exact ⟨(y285), (wrap64 (x6_1 + 1)), (by first | rfl | (simp; done) | (simp [*]; done)), H', ⟨by have := HK1.out; omega⟩, ⟨by (with_reducible repeat (first | apply Kd.R_alloc | apply Kd.R_drewN | apply Kd.R_drew)); exact HO287.out⟩, ⟨by repeat (first | (with_reducible first | exact HB.out | apply pA | apply pN | apply pD) | exact HB.out)⟩⟩
end Go.Proofs.Ytepkfigcnnfoaaa.P
namespace Go.Proofs.Ytepkfigcnnfoaaa.Deep
open Go.RowKit Go.Proofs.YtepkfigcnnfoaaaW.PrintWords Go.Proofs.YtepkfigcnnfoaaaW.PrintLast Go.Proofs.YtepkfigcnnfoaaaW.PrintMore
section
variable {P : Program} {ops : Array Oper} {rest : List Oper} {o : Oper} {a : Act} {Q : Exit → Act → World → Prop} {Kc : Act → World → Prop}
variable {α : Type} {dP : Kd α} {tA tP tC tL tI tR tK : Nat} {w0 W w1 : World} {gC gZ : Nat} {cC cZ : Array Value} {vA vC vR vI vc vb vi vl : Value} {LA : List Bool} {LC : List (List α)} {LR : List (List (List Int))} {LI : List (List Int)} {lc : List α} {lb : List (List Int)} {li ll : List Int}
theorem All.litx_c (hT : Apart dP tA tP tC tL tI tR tK) (h : All dP tA tP tC tL tI tR tK w0 W gC gZ cC cZ vA vC vR vI (.slice none 0 0) vb vi vl LA LC LR LI [] lb li ll) (hw : Region.wanted o (yielded ops a.tmps) = true) {N : Tmp} (hd : o.dst = some N) (xs : List α) (inner : List Value)
  (hrun : (execOp a.eval o).run P W = .ok (.value (.slice (some ⟨W.heap.size, 0, none⟩) xs.length xs.length)) (W.alloc (.cells inner.toArray tP))) (hrep : Reps (dP.M W w0.heap.size (fun _ => False)) dP.sz xs inner) (hm : xs.length ≤ 9223372036854775807)
  (k : ∀ v1 w1, All dP tA tP tC tL tI tR tK w0 w1 gC gZ cC cZ vA vC vR vI v1 vb vi vl LA LC LR LI xs lb li ll → (∀ (j : Nat) (o9 : Obj), W.heap[j]? = some o9 → w1.heap[j]? = some o9) → Kc (a.put o.dst v1) w1) : if Region.wanted o (yielded ops a.tmps) = true then Oper.wp P o a W Kc Q else Kc (a.put o.dst undef) W := by
 have hle := h.le
 obtain ⟨hB, hC, hZ, hg, f, h0, h1, h2, h3, h4, h5, h6, h7⟩ := h
 refine Kd.R_lit_step dP (w0 := w0) w0.heap.size tP hw hd (xs := xs) (inner := inner) (ok := tg (upT f W.heap.size 4) 4) (okp := fun _ => False) hrun hrep (fun _ hk => hk.elim) (upT_ge (Nat.le_refl _)) hB hle hm ?_
 intro v1 w1 hr hb hgr _
 have no : ∀ i k, (none : Option Nat) = some k → f k ≠ i := fun _ _ e => by cases e
 exact k v1 w1 ⟨hb, Zr hC hgr (by simp), Zr hZ hgr (by simp), hg, upT f W.heap.size 4, Zq h0 hgr (no 0) (fun k hk e => (Zf hk).trans e), Zj h1 hgr (no 1) (fun k hk e => (Zf hk).trans e), Zj h2 hgr (no 2) (fun k hk e => (Zf hk).trans e), Zj h3 hgr (no 3) (fun k hk e => (Zf hk).trans e), hr, Zj h5 hgr (no 5) (fun k hk e => (Zf hk).trans e), Zq h6 hgr (no 6) (fun k hk e => (Zf hk).trans e), Zq h7 hgr (no 7) (fun k hk e => (Zf hk).trans e)⟩ (fun j o9 hj => Zr hj hgr (by simp))
theorem All.litx_i (hT : Apart dP tA tP tC tL tI tR tK) (h : All dP tA tP tC tL tI tR tK w0 W gC gZ cC cZ vA vC vR vI vc vb (.slice none 0 0) vl LA LC LR LI lc lb [] ll) (hw : Region.wanted o (yielded ops a.tmps) = true) {N : Tmp} (hd : o.dst = some N) (xs : List Int) (inner : List Value)
  (hrun : (execOp a.eval o).run P W = .ok (.value (.slice (some ⟨W.heap.size, 0, none⟩) xs.length xs.length)) (W.alloc (.cells inner.toArray tL))) (hrep : Reps ((Kd.int .i64).M W w0.heap.size (fun _ => False)) (Kd.int .i64).sz xs inner) (hm : xs.length ≤ 9223372036854775807)
  (k : ∀ v1 w1, All dP tA tP tC tL tI tR tK w0 w1 gC gZ cC cZ vA vC vR vI vc vb v1 vl LA LC LR LI lc lb xs ll → (∀ (j : Nat) (o9 : Obj), W.heap[j]? = some o9 → w1.heap[j]? = some o9) → Kc (a.put o.dst v1) w1) : if Region.wanted o (yielded ops a.tmps) = true then Oper.wp P o a W Kc Q else Kc (a.put o.dst undef) W := by
 have hle := h.le
 obtain ⟨hB, hC, hZ, hg, f, h0, h1, h2, h3, h4, h5, h6, h7⟩ := h
 refine Kd.R_lit_step (Kd.int .i64) (w0 := w0) w0.heap.size tL hw hd (xs := xs) (inner := inner) (ok := tg (upT f W.heap.size 6) 6) (okp := fun _ => False) hrun hrep (fun _ hk => hk.elim) (upT_ge (Nat.le_refl _)) hB hle hm ?_
 intro v1 w1 hr hb hgr _
 have no : ∀ i k, (none : Option Nat) = some k → f k ≠ i := fun _ _ e => by cases e
 exact k v1 w1 ⟨hb, Zr hC hgr (by simp), Zr hZ hgr (by simp), hg, upT f W.heap.size 6, Zq h0 hgr (no 0) (fun k hk e => (Zf hk).trans e), Zj h1 hgr (no 1) (fun k hk e => (Zf hk).trans e), Zj h2 hgr (no 2) (fun k hk e => (Zf hk).trans e), Zj h3 hgr (no 3) (fun k hk e => (Zf hk).trans e), Zq h4 hgr (no 4) (fun k hk e => (Zf hk).trans e), Zj h5 hgr (no 5) (fun k hk e => (Zf hk).trans e), hr, Zq h7 hgr (no 7) (fun k hk e => (Zf hk).trans e)⟩ (fun j o9 hj => Zr hj hgr (by simp))
theorem All.row_i (h : All dP tA tP tC tL tI tR tK w0 W gC gZ cC cZ vA vC vR vI vc vb (.slice none 0 0) vl LA LC LR LI lc lb [] ll) {v1 : Value} {xs : List Int} {ok : Nat → Prop} (hb : Below W.heap.size W w1) (hr : (Kd.int .i64).R tL w1 W.heap.size ok v1 xs) : All dP tA tP tC tL tI tR tK w0 w1 gC gZ cC cZ vA vC vR vI vc vb v1 vl LA LC LR LI lc lb xs ll := by
 have hle := h.le
 obtain ⟨hB, hC, hZ, hg, f, h0, h1, h2, h3, h4, h5, h6, h7⟩ := h
 have hgr := grown_of_below hb none
 have no : ∀ i k, (none : Option Nat) = some k → f k ≠ i := fun _ _ e => by cases e
 exact ⟨pT hB hb, bb_ hC hb, bb_ hZ hb, hg, upT f W.heap.size 6, Zq h0 hgr (no 0) (fun k hk e => (Zf hk).trans e), Zj h1 hgr (no 1) (fun k hk e => (Zf hk).trans e), Zj h2 hgr (no 2) (fun k hk e => (Zf hk).trans e), Zj h3 hgr (no 3) (fun k hk e => (Zf hk).trans e), Zq h4 hgr (no 4) (fun k hk e => (Zf hk).trans e), Zj h5 hgr (no 5) (fun k hk e => (Zf hk).trans e), Kd.R_lower (Kd.R_mono (Kd.R_bound hr) (fun k hk => upT_ge hk.2.1)) hle, Zq h7 hgr (no 7) (fun k hk e => (Zf hk).trans e)⟩
theorem All.row_l (h : All dP tA tP tC tL tI tR tK w0 W gC gZ cC cZ vA vC vR vI vc vb vi (.slice none 0 0) LA LC LR LI lc lb li []) {v1 : Value} {xs : List Int} {ok : Nat → Prop} (hb : Below W.heap.size W w1) (hr : (Kd.int .i64).R tL w1 W.heap.size ok v1 xs) : All dP tA tP tC tL tI tR tK w0 w1 gC gZ cC cZ vA vC vR vI vc vb vi v1 LA LC LR LI lc lb li xs := by
 have hle := h.le
 obtain ⟨hB, hC, hZ, hg, f, h0, h1, h2, h3, h4, h5, h6, h7⟩ := h
 have hgr := grown_of_below hb none
 have no : ∀ i k, (none : Option Nat) = some k → f k ≠ i := fun _ _ e => by cases e
 exact ⟨pT hB hb, bb_ hC hb, bb_ hZ hb, hg, upT f W.heap.size 7, Zq h0 hgr (no 0) (fun k hk e => (Zf hk).trans e), Zj h1 hgr (no 1) (fun k hk e => (Zf hk).trans e), Zj h2 hgr (no 2) (fun k hk e => (Zf hk).trans e), Zj h3 hgr (no 3) (fun k hk e => (Zf hk).trans e), Zq h4 hgr (no 4) (fun k hk e => (Zf hk).trans e), Zj h5 hgr (no 5) (fun k hk e => (Zf hk).trans e), Zq h6 hgr (no 6) (fun k hk e => (Zf hk).trans e), Kd.R_lower (Kd.R_mono (Kd.R_bound hr) (fun k hk => upT_ge hk.2.1)) hle⟩
theorem All.lit_b2 (hT : Apart dP tA tP tC tL tI tR tK) (h : All dP tA tP tC tL tI tR tK w0 W gC gZ cC cZ vA vC vR vI vc (.slice none 0 0) vi vl LA LC LR LI lc [] li ll) (hw : Region.wanted o (yielded ops a.tmps) = true) {N : Tmp} (hd : o.dst = some N)
  (hrun : (execOp a.eval o).run P W = .ok (.value (.slice (some ⟨W.heap.size, 0, none⟩) 2 2)) (W.alloc (.cells #[vi, vl] tI)))
  (k : ∀ v1 w1, All dP tA tP tC tL tI tR tK w0 w1 gC gZ cC cZ vA vC vR vI vc v1 (.slice none 0 0) (.slice none 0 0) LA LC LR LI lc [li, ll] [] [] → (∀ (j : Nat) (o9 : Obj), W.heap[j]? = some o9 → w1.heap[j]? = some o9) → Kc (a.put o.dst v1) w1) : if Region.wanted o (yielded ops a.tmps) = true then Oper.wp P o a W Kc Q else Kc (a.put o.dst undef) W := by
 have hle := h.le
 obtain ⟨hB, hC, hZ, hg, f, h0, h1, h2, h3, h4, h5, h6, h7⟩ := h
 have hrep : Reps ((Kd.tag (fun k => if f k = 6 then 0 else 1) (Kd.slice tL (Kd.int .i64))).M W w0.heap.size (fun k => (f k = 6 ∨ f k = 7) ∧ k < W.heap.size)) 1 [(li, 0), (ll, 1)] [vi, vl] := Reps.one ⟨vi, rfl, Kd.R_mono (R_tag_in h6) (fun k hk => ⟨⟨.inl hk.1, hk.2⟩, if_pos hk.1⟩)⟩ (Reps.one ⟨vl, rfl, Kd.R_mono (R_tag_in h7) (fun k hk => ⟨⟨.inr hk.1, hk.2⟩, if_neg (by rw [hk.1]; decide)⟩)⟩ (Reps.none _ _))
 refine Kd.R_lit_step (Kd.tag (fun k => if f k = 6 then 0 else 1) (Kd.slice tL (Kd.int .i64))) (w0 := w0) w0.heap.size tI hw hd (xs := [(li, 0), (ll, 1)]) (inner := [vi, vl]) (ok := tg (fun k => if k < W.heap.size then (if f k = 6 ∨ f k = 7 then 5 else f k) else 5) 5) (okp := fun k => (f k = 6 ∨ f k = 7) ∧ k < W.heap.size) hrun hrep (fun k hk => (if_pos hk.2).trans (if_pos hk.1)) (if_neg (by omega)) hB hle (by simp) ?_
 intro v1 w1 hr hb hgr _
 have no : ∀ i k, (none : Option Nat) = some k → f k ≠ i := fun _ _ e => by cases e
 have oth : ∀ i, i ≠ 6 → i ≠ 7 → ∀ k, k < W.heap.size → f k = i → (if k < W.heap.size then (if f k = 6 ∨ f k = 7 then 5 else f k) else 5) = i := fun i h6 h7 k hk e => (if_pos hk).trans ((if_neg (by rw [e]; omega)).trans e)
 exact k v1 w1 ⟨hb, Zr hC hgr (by simp), Zr hZ hgr (by simp), hg, _, Zq h0 hgr (no 0) (oth 0 (by decide) (by decide)), Zj h1 hgr (no 1) (oth 1 (by decide) (by decide)), Zj h2 hgr (no 2) (oth 2 (by decide) (by decide)), Zj h3 hgr (no 3) (oth 3 (by decide) (by decide)), Zq h4 hgr (no 4) (oth 4 (by decide) (by decide)), ⟨_, hr⟩, Kd.R_nil _ _ _ _ _, Kd.R_nil _ _ _ _ _⟩ (fun j o9 hj => Zr hj hgr (by simp))
theorem wpList_at (h : if Region.wanted o (yielded ops a.tmps) = true then Oper.wp P o a W (wpList P ops Q rest) Q else wpList P ops Q rest (a.put o.dst undef) W) : wpList P ops Q (o :: rest) a W := by
 unfold wpList
 split
 ·rename_i hw; rw [if_pos hw] at h; exact .inl h
 ·rename_i hw; rw [if_neg hw] at h; exact h
end
end Go.Proofs.Ytepkfigcnnfoaaa.Deep
namespace Go.Proofs.Ytepkfigcnnfoaaa.P
open Go.RowKit Go.Proofs.YtepkfigcnnfoaaaW.PrintWords Go.Proofs.YtepkfigcnnfoaaaW.PrintLast Go.Proofs.YtepkfigcnnfoaaaW.PrintMore Go.Proofs.Ytepkfigcnnfoaaa.Deep
theorem same_l (a n : Int) (hn : n ≤ 1000) : ∀ (d : Nat) (i : Int) (k : Nat) (l : List Int), 0 ≤ i → i + d = n → d < k → l.length ≤ 1000000 - d → spec_l02Same.l0 k a n l i = some (l ++ List.replicate d a)
 | _, _, 0, _, _, _, hk, _ => by omega
 | 0, i, k + 1, l, h0, hi, _, _ => by
  simp only [spec_l02Same.l0, if_neg (show ¬ i < n by omega)]
  simp
 | d + 1, i, k + 1, l, h0, hi, hk, hl => by
  have hnext := same_l a n hn d (i + 1) k (l ++ [a]) (by omega) (by omega) (by omega) (by simp; omega)
  simp only [spec_l02Same.l0, if_pos (show i < n by omega), if_pos (show l.length < 17592186044416 by omega), bw' (i + 1) (by omega) (by omega), Option.bind_some, hnext]
  simp [List.replicate_succ]
theorem same_f (a m : Int) (h : 0 ≤ m ∧ m ≤ 900) : spec_l02Same.f 2000 a (wrap64 (m + 1)) = some (List.replicate (m + 1).toNat a) := by
 rw [bw' _ (by omega) (by omega)]
 have := same_l a (m + 1) (by omega) (m + 1).toNat 0 2000 [] (by omega) (by omega) (by omega) (by simp only [List.length_nil]; omega)
 simpa [spec_l02Same.f] using this
def plain.T1 : Bool × List (List Nat × List Nat) := (true, [([], []), ([], []), ([1], [1]), ([2], [2]), ([3], [3]), ([], []), ([5], [5]), ([6], [6]), ([7], [7]), ([], []), ([9], [9]), ([10], [10]), ([11], [11]), ([8, 12], [8, 12]), ([13], [13]), ([4, 14], [4, 14]), ([0, 0, 1, 2, 3, 4, 5, 6, 7, 8, 9, 10, 11, 12, 13, 14, 15], [0]), ([16, 0, 1, 2, 3, 4, 5, 6, 7, 8, 9, 10, 11, 12, 13, 14, 15], [16]), ([17, 15, 15, 0, 1, 2, 3, 4, 5, 6, 7, 8, 9, 10, 11, 12, 13, 14, 15], [15, 17])])
def plain.B1 : List Nat := [0, 0, 2, 6, 14, 0, 32, 96, 224, 0, 512, 1536, 3584, 8160, 16352, 32766, 65535, 131071, 262143]
theorem plain.tab1 : rtab .any (opsOf Try.f52 1) = plain.T1 := by kernel_rfl
theorem plain.bits1 : waitsOk plain.T1.2 plain.B1 = true := by kernel_rfl
def plain.T2 : Bool × List (List Nat × List Nat) := (true, [([], []), ([], []), ([1], [1]), ([2], [2]), ([3], [3]), ([], []), ([5], [5]), ([6], [6]), ([], []), ([8], [8]), ([9], [9]), ([10], [10]), ([11], [11]), ([7, 12], [7, 12]), ([], []), ([14], [14]), ([15], [15]), ([], []), ([17], [17]), ([18], [18]), ([19], [19]), ([20], [20]), ([16, 21, 13], [16, 21]), ([13, 22], [13, 22]), ([23], [23]), ([4, 24, 22], [4, 24]), ([0, 0, 1, 2, 3, 4, 5, 6, 7, 8, 9, 10, 11, 12, 13, 14, 15, 16, 17, 18, 19, 20, 21, 22, 23, 24, 25], [0]), ([26, 0, 1, 2, 3, 4, 5, 6, 7, 8, 9, 10, 11, 12, 13, 14, 15, 16, 17, 18, 19, 20, 21, 22, 23, 24, 25], [26]), ([27, 25, 25, 0, 1, 2, 3, 4, 5, 6, 7, 8, 9, 10, 11, 12, 13, 14, 15, 16, 17, 18, 19, 20, 21, 22, 23, 24, 25], [25, 27])])
def plain.B2 : List Nat := [0, 0, 2, 6, 14, 0, 32, 96, 0, 256, 768, 1792, 3840, 8160, 0, 16384, 49152, 0, 131072, 393216, 917504, 1966080, 4194272, 8388576, 16777184, 33554430, 67108863, 134217727, 268435455]
theorem plain.tab2 : rtab .any (opsOf Try.f52 2) = plain.T2 := by kernel_rfl
theorem plain.bits2 : waitsOk plain.T2.2 plain.B2 = true := by kernel_rfl
def plain.T3 : Bool × List (List Nat × List Nat) := (true, [([], []), ([], []), ([1], [1]), ([2], [2]), ([3], [3]), ([], []), ([5], [5]), ([6], [6]), ([], []), ([8], [8]), ([9], [9]), ([7, 10], [7, 10]), ([11], [11]), ([4, 12], [4, 12]), ([0, 0, 1, 2, 3, 4, 5, 6, 7, 8, 9, 10, 11, 12, 13], [0]), ([14, 0, 1, 2, 3, 4, 5, 6, 7, 8, 9, 10, 11, 12, 13], [14]), ([15, 13, 13, 0, 1, 2, 3, 4, 5, 6, 7, 8, 9, 10, 11, 12, 13], [13, 15])])
def plain.B3 : List Nat := [0, 0, 2, 6, 14, 0, 32, 96, 0, 256, 768, 2016, 4064, 8190, 16383, 32767, 65535]
theorem plain.tab3 : rtab .any (opsOf Try.f52 3) = plain.T3 := by kernel_rfl
theorem plain.bits3 : waitsOk plain.T3.2 plain.B3 = true := by kernel_rfl
theorem plain_calls (w0 w : World) (gC gZ gT : Nat) (cZ' csT : Array Value) (cT : Nat) (m st : Int) (vA vC vR vI : Value) (LA : List Bool) (LC : List (List S47)) (LR : List (List (List Int))) (LI : List (List Int)) (ac : Bool) (t0 t1 t2 t3 t4 t5 : Int)
  (hA : AllB w0 w gC gZ (Yc m st vA vC vR vI) cZ' vA vC vR vI Zx Zx Zx Zx LA LC LR LI [] [] [] []) (hT : w.heap[gT]? = some (.cells csT 2 (0, 0)))
  (h0 : csT[0]? = some (.int .i64 t0)) (h1 : csT[1]? = some (.int .i64 t1)) (h2 : csT[2]? = some (.int .i64 t2)) (h3 : csT[3]? = some (.int .i64 t3)) (h4 : csT[4]? = some (.int .i64 t4)) (h5 : csT[5]? = some (.int .i64 t5))
  (hm : 0 ≤ m ∧ m ≤ 900) (lA : LA.length ≤ 1000000) (lC : LC.length ≤ 1000000) (lR : LR.length ≤ 1000000) (lI : LI.length ≤ 1000000) :
  Calls Try.prog 52 #[.pointer (some ⟨gC, 0, none⟩), .bool ac, .slice (some ⟨gT, 0, none⟩) 6 cT] w fun e w' => ∃ vA' vC' vR' vI' : Value, e = .returned (.tuple #[]) ∧ AllB w0 w' gC gZ (Yc m st vA' vC' vR' vI') cZ' vA' vC' vR' vI' Zx Zx Zx Zx (LA ++ [ac]) (LC ++ [[⟨t0, 0⟩, ⟨t1, 0⟩]]) (LR ++ [[List.replicate (m + 1).toNat t2, List.replicate (m + 1).toNat t3]]) (LI ++ [[t4, t5]]) [] [] [] [] := by
 have NT := AZ.mk (show gT ≠ gC by rintro rfl; rw [All.boxC hA] at hT; injection hT with hT; injection hT with _ h_ _; exact absurd h_ (by decide))
 have HT0 := AZ.mk h0
 have HT1 := AZ.mk h1
 have HT2 := AZ.mk h2
 have HT3 := AZ.mk h3
 have HT4 := AZ.mk h4
 have HT5 := AZ.mk h5
 have HM := AZ.mk hm
 have HLA := AZ.mk lA
 have HLC := AZ.mk lC
 have HLR := AZ.mk lR
 have HLI := AZ.mk lI
 have HO := AZ.mk hA
 have BT := AZ.mk hT
 have hc2 : w.cell? ⟨gC, 2, none⟩ = some vA := (bc (All.boxC HO.out) 2).trans rfl
 clear hA hT h0 h1 h2 h3 h4 h5 hm lA lC lR lI
 go_enter Try.func52, Try.ntmps52
 go_wp2_with ((with_reducible refine gate_builtin (b := .append) (xs := #[.tmp 10, .tmp 12]) rfl ?_); at_builtin; refine wpList_at ?_; refine All.app_A bap (All.alloc HO.out _) (by rfl) (.tmp 10) (.tmp 12) 22 ac rfl Try.underlying22 bi4 rfl w.heap.size rfl (heap_alloc_new w _) (by have := HLA.out; omega) ?_; intro v13 w13 ho hfar; have n0_ := AZ.mk (hfar _ _ _ (ba_ BT.out _) (by decide)); obtain ⟨A13, n13, c13, hr_⟩ := (shapes ho).2.2.2.2.1; subst hr_; clear HO BT hc2 hfar; have BT := n0_; have HO := AZ.mk ho; clear n0_ ho; have hc2 : w13.cell? ⟨gC, 2, none⟩ = some vA := (bc (All.boxC HO.out) 2).trans rfl; have hf2 := bf (All.boxC HO.out) 2)
 have n0_ := AZ.mk (show AllB w0 (w13.setCell ⟨gC, 2, none⟩ (.slice A13 n13 c13)) gC gZ (Yc m st (.slice A13 n13 c13) vC vR vI) cZ' (.slice A13 n13 c13) vC vR vI Zx Zx Zx Zx (LA ++ [ac]) LC LR LI [] [] [] [] from All.set bap HO.out 2 _)
 have n1_ := AZ.mk ((Below.heap_setCell w13 ⟨gC, 2, none⟩ (.slice A13 n13 c13) _ NT.out).trans BT.out)
 clear HO BT hc2 hf2
 have HO := n0_
 have BT := n1_
 clear n0_ n1_
 generalize World.setCell _ _ _ = w14 at HO BT ⊢
 refine start_ (n := 19) (S := fun w' => True) (ds := []) (bz 19 0) (by kernel_rfl) rfl rfl trivial (fun hHeld => ?_)
 refine with_tabW plain.tab1 plain.bits1 (fun HT_ HW_ => ?_)
 have ALL0 := AZ.mk (All.drew HO.out)
 have BX := AZ.mk (All.boxC ALL0.out)
 have n_ := AZ.mk (bd_ BT.out)
 clear HO BT
 have BT := n_
 clear n_
 generalize World.drew _ = wD at ALL0 BX BT hHeld ⊢
 refine pure_ (i := 0) (N := some 16) (v := ?_) (a' := ?_) (bz 19 1) rfl rfl (Zy HT_.out (by kernel_rfl)) (fun _ _ _ h => h) (Or.inl ⟨by rfl, ?_⟩) ?_ ?_
 rotate_left
 ·intro w'
  go_simp
  with_reducible rfl
 rotate_left
 ·simp only [Act.put, sA, sB, sC, i64_w, i32_w]
  rfl
 refine pure_ (i := 1) (N := some 17) (v := ?_) (a' := ?_) (bz 19 3) rfl rfl (Zy HT_.out (by kernel_rfl)) (fun _ _ _ h => h) (Or.inl ⟨by rfl, ?_⟩) ?_ ?_
 rotate_left
 ·intro w'
  go_simp
  with_reducible rfl
 rotate_left
 ·simp only [Act.put, sA, sB, sC, i64_w, i32_w]
  rfl
 refine pure_ (i := 2) (N := some 18) (v := ?_) (a' := ?_) (bz 19 7) rfl rfl (Zy HT_.out (by kernel_rfl)) (fun _ _ _ h => h) (Or.inl ⟨by rfl, ?_⟩) ?_ ?_
 rotate_left
 ·intro w'
  go_simp
  with_reducible rfl
 rotate_left
 ·simp only [Act.put, sA, sB, sC, i64_w, i32_w]
  rfl
 refine pure_ (i := 3) (N := some 19) (v := ?_) (a' := ?_) (bz 19 15) rfl rfl (Zy HT_.out (by kernel_rfl)) (fun _ _ _ h => h) (Or.inl ⟨by rfl, ?_⟩) ?_ ?_
 rotate_left
 ·intro w'
  go_simp
  with_reducible rfl
 rotate_left
 ·simp only [Act.put, sA, sB, sC, i64_w, i32_w]
  rfl
 refine pure_ (i := 5) (N := some 21) (v := ?_) (a' := ?_) (bz 19 47) rfl rfl (Zy HT_.out (by kernel_rfl)) (fun _ _ _ h => h) (Or.inl ⟨by rfl, ?_⟩) ?_ ?_
 rotate_left
 ·intro w'
  go_simp
  with_reducible rfl
 rotate_left
 ·simp only [Act.put, sA, sB, sC, i64_w, i32_w]
  rfl
 refine pure_ (i := 9) (N := some 25) (v := ?_) (a' := ?_) (bz 19 559) rfl rfl (Zy HT_.out (by kernel_rfl)) (fun _ _ _ h => h) (Or.inl ⟨by rfl, ?_⟩) ?_ ?_
 rotate_left
 ·intro w'
  go_simp
  with_reducible rfl
 rotate_left
 ·simp only [Act.put, sA, sB, sC, i64_w, i32_w]
  rfl
 refine inv_at [4, 6, 7, 8, 10, 11, 12, 13, 14, 15, 16, 17, 18] (fun a0_ b a w' => ∃ (r13 : Value) (r15 : Value) (b14 : Value), a = Ya a0_ b [(4, 20, vC), (6, 22, .pointer (some ⟨gT, 0, none⟩)), (7, 23, .int .i64 t0), (8, 24, .agg #[.int .i64 t0, .int .i64 0]), (10, 26, .pointer (some ⟨gT, 1, none⟩)), (11, 27, .int .i64 t1), (12, 28, .agg #[.int .i64 t1, .int .i64 0]), (13, 29, r13), (14, 30, b14), (15, 31, r15), (16, 32, .pointer (some ⟨gC, 0, none⟩)), (17, 33, .pointer (some ⟨gC, 3, none⟩))] ∧ (b 13 = false → AllB w0 w' gC gZ (Yc m st (.slice A13 n13 c13) vC vR vI) cZ' (.slice A13 n13 c13) vC vR vI (.slice none 0 0) (.slice none 0 0) (.slice none 0 0) (.slice none 0 0) (LA ++ [ac]) LC LR LI [] [] [] []) ∧ (b 13 = true → b 15 = false → AllB w0 w' gC gZ (Yc m st (.slice A13 n13 c13) vC vR vI) cZ' (.slice A13 n13 c13) vC vR vI r13 (.slice none 0 0) (.slice none 0 0) (.slice none 0 0) (LA ++ [ac]) LC LR LI [⟨t0, 0⟩, ⟨t1, 0⟩] [] [] []) ∧ (b 15 = true → b 18 = false → AllB w0 w' gC gZ (Yc m st (.slice A13 n13 c13) vC vR vI) cZ' (.slice A13 n13 c13) r15 vR vI (.slice none 0 0) (.slice none 0 0) (.slice none 0 0) (.slice none 0 0) (LA ++ [ac]) (LC ++ [[⟨t0, 0⟩, ⟨t1, 0⟩]]) LR LI [] [] [] []) ∧ (b 18 = true → AllB w0 w' gC gZ (Yc m st (.slice A13 n13 c13) r15 vR vI) cZ' (.slice A13 n13 c13) r15 vR vI (.slice none 0 0) (.slice none 0 0) (.slice none 0 0) (.slice none 0 0) (LA ++ [ac]) (LC ++ [[⟨t0, 0⟩, ⟨t1, 0⟩]]) LR LI [] [] [] []) ∧ (b 18 = false → w'.heap[gC]? = some (.cells (Yc m st (.slice A13 n13 c13) vC vR vI) 27 (0, 0))) ∧ (w'.heap[gT]? = some (.cells csT 2 (0, 0))) ∧ (b 14 = true → b 15 = false → ∃ g_ : Nat, b14 = .slice (some ⟨g_, 0, none⟩) 1 1 ∧ w'.heap[g_]? = some (.cells [r13].toArray 48 (0, 0)))) HT_.out HW_.out (by kernel_rfl) (by kernel_rfl) ?_ ?_ ?_
 ·exact ⟨.bool false, .bool false, .bool false, by simp only [Ya, Bool.false_eq_true, if_false], fun _ => ALL0.out, fun h_ => absurd h_ (by decide), fun h_ => absurd h_ (by decide), fun h_ => absurd h_ (by decide), fun _ => BX.out, BT.out, fun h_ => absurd h_ (by decide)⟩
 ·skip
  clear ALL0 BT BX
  refine Za ?_ ?_
  ·rintro b a w' ⟨r13, r15, b14, ha, Q_ALL0, Q_ALL1, Q_ALL2, Q_ALL3, Q_BX, Q_BT, Q_BK14⟩ hb_ hon hoff
   refine ⟨_, rfl, fun K hK => ?_⟩
   have e19 : a.tmps[19]? = some (.pointer (some ⟨gC, 3, none⟩)) := xH_ ha rfl rfl
   replace ha := AZ.mk ha
   have BX := AZ.mk (Q_BX (hoff 18 rfl))
   have hc_ : w'.cell? ⟨gC, 3, none⟩ = some (vC) := (bc BX.out 3).trans rfl
   refine Zw (w1 := w') (v := vC) (by rfl) rfl (by go_simp; (try simp only [i64_w]); try rfl) ?_
   refine hK.out _ _ ⟨r13, r15, b14, (xI_ ha.out 0 hb_ rfl rfl rfl), Q_ALL0, Q_ALL1, xB_ (hoff 15 rfl), xA_ (hoff 18 rfl), Q_BX, Q_BT, Q_BK14⟩
  refine Za ?_ ?_
  ·rintro b a w' ⟨r13, r15, b14, ha, Q_ALL0, Q_ALL1, Q_ALL2, Q_ALL3, Q_BX, Q_BT, Q_BK14⟩ hb_ hon hoff
   refine ⟨_, rfl, fun K hK => ?_⟩
   have e21 : a.tmps[21]? = some (.slice (some ⟨gT, 0, none⟩) 6 cT) := xH_ ha rfl rfl
   replace ha := AZ.mk ha
   refine Zw (w1 := w') (v := .pointer (some ⟨gT, 0, none⟩)) (by rfl) rfl (by go_simp; (try simp only [i64_w]); try rfl) ?_
   refine hK.out _ _ ⟨r13, r15, b14, (xI_ ha.out 1 hb_ rfl rfl rfl), Q_ALL0, xB_ (hoff 13 rfl), xB_ (hoff 15 rfl), xA_ (hoff 18 rfl), Q_BX, Q_BT, xB_ (hoff 14 rfl)⟩
  refine Za ?_ ?_
  ·rintro b a w' ⟨r13, r15, b14, ha, Q_ALL0, Q_ALL1, Q_ALL2, Q_ALL3, Q_BX, Q_BT, Q_BK14⟩ hb_ hon hoff
   refine ⟨_, rfl, fun K hK => ?_⟩
   have e22 := xG_ ha 1 rfl (hon 6 rfl) rfl rfl
   replace ha := AZ.mk ha
   have BT := AZ.mk Q_BT
   have hc_ : w'.cell? ⟨gT, 0, none⟩ = some (.int .i64 t0) := (bc BT.out 0).trans HT0.out
   refine Zw (w1 := w') (v := .int .i64 t0) (by rfl) rfl (by go_simp; (try simp only [i64_w]); try rfl) ?_
   refine hK.out _ _ ⟨r13, r15, b14, (xI_ ha.out 2 hb_ rfl rfl rfl), Q_ALL0, xB_ (hoff 13 rfl), xB_ (hoff 15 rfl), xA_ (hoff 18 rfl), Q_BX, Q_BT, xB_ (hoff 14 rfl)⟩
  refine Za ?_ ?_
  ·rintro b a w' ⟨r13, r15, b14, ha, Q_ALL0, Q_ALL1, Q_ALL2, Q_ALL3, Q_BX, Q_BT, Q_BK14⟩ hb_ hon hoff
   refine ⟨_, rfl, fun K hK => ?_⟩
   have e23 := xG_ ha 2 rfl (hon 7 rfl) rfl rfl
   replace ha := AZ.mk ha
   refine Zw (w1 := w') (v := .agg #[.int .i64 t0, .int .i64 0]) (by rfl) rfl (by go_simp; (try simp only [i64_w]); try rfl) ?_
   refine hK.out _ _ ⟨r13, r15, b14, (xI_ ha.out 3 hb_ rfl rfl rfl), Q_ALL0, xB_ (hoff 13 rfl), xB_ (hoff 15 rfl), xA_ (hoff 18 rfl), Q_BX, Q_BT, xB_ (hoff 14 rfl)⟩
  refine Za ?_ ?_
  ·rintro b a w' ⟨r13, r15, b14, ha, Q_ALL0, Q_ALL1, Q_ALL2, Q_ALL3, Q_BX, Q_BT, Q_BK14⟩ hb_ hon hoff
   refine ⟨_, rfl, fun K hK => ?_⟩
   have e25 : a.tmps[25]? = some (.slice (some ⟨gT, 0, none⟩) 6 cT) := xH_ ha rfl rfl
   replace ha := AZ.mk ha
   refine Zw (w1 := w') (v := .pointer (some ⟨gT, 1, none⟩)) (by rfl) rfl (by go_simp; (try simp only [i64_w]); try rfl) ?_
   refine hK.out _ _ ⟨r13, r15, b14, (xI_ ha.out 4 hb_ rfl rfl rfl), Q_ALL0, xB_ (hoff 13 rfl), xB_ (hoff 15 rfl), xA_ (hoff 18 rfl), Q_BX, Q_BT, xB_ (hoff 14 rfl)⟩
  refine Za ?_ ?_
  ·rintro b a w' ⟨r13, r15, b14, ha, Q_ALL0, Q_ALL1, Q_ALL2, Q_ALL3, Q_BX, Q_BT, Q_BK14⟩ hb_ hon hoff
   refine ⟨_, rfl, fun K hK => ?_⟩
   have e26 := xG_ ha 4 rfl (hon 10 rfl) rfl rfl
   replace ha := AZ.mk ha
   have BT := AZ.mk Q_BT
   have hc_ : w'.cell? ⟨gT, 1, none⟩ = some (.int .i64 t1) := (bc BT.out 1).trans HT1.out
   refine Zw (w1 := w') (v := .int .i64 t1) (by rfl) rfl (by go_simp; (try simp only [i64_w]); try rfl) ?_
   refine hK.out _ _ ⟨r13, r15, b14, (xI_ ha.out 5 hb_ rfl rfl rfl), Q_ALL0, xB_ (hoff 13 rfl), xB_ (hoff 15 rfl), xA_ (hoff 18 rfl), Q_BX, Q_BT, xB_ (hoff 14 rfl)⟩
  refine Za ?_ ?_
  ·rintro b a w' ⟨r13, r15, b14, ha, Q_ALL0, Q_ALL1, Q_ALL2, Q_ALL3, Q_BX, Q_BT, Q_BK14⟩ hb_ hon hoff
   refine ⟨_, rfl, fun K hK => ?_⟩
   have e27 := xG_ ha 5 rfl (hon 11 rfl) rfl rfl
   replace ha := AZ.mk ha
   refine Zw (w1 := w') (v := .agg #[.int .i64 t1, .int .i64 0]) (by rfl) rfl (by go_simp; (try simp only [i64_w]); try rfl) ?_
   refine hK.out _ _ ⟨r13, r15, b14, (xI_ ha.out 6 hb_ rfl rfl rfl), Q_ALL0, xB_ (hoff 13 rfl), xB_ (hoff 15 rfl), xA_ (hoff 18 rfl), Q_BX, Q_BT, xB_ (hoff 14 rfl)⟩
  refine Za ?_ ?_
  ·rintro b a w' ⟨r13, r15, b14, ha, Q_ALL0, Q_ALL1, Q_ALL2, Q_ALL3, Q_BX, Q_BT, Q_BK14⟩ hb_ hon hoff
   refine ⟨_, rfl, fun K hK => ?_⟩
   have e24 := xG_ ha 3 rfl (hon 8 rfl) rfl rfl
   have e28 := xG_ ha 6 rfl (hon 12 rfl) rfl rfl
   replace ha := AZ.mk ha
   have ALL0 := AZ.mk (Q_ALL0 hb_)
   have BX := AZ.mk (Q_BX (hoff 18 rfl))
   have BT := AZ.mk Q_BT
   refine All.litx_c bap ALL0.out (by rfl) (N := 29) rfl [⟨t0, 0⟩, ⟨t1, 0⟩] [.int .i64 t0, .int .i64 0, .int .i64 t1, .int .i64 0] ?hrun (Reps.c2 (k47_mkM _ _ _ ⟨t0, 0⟩) (Reps.c2 (k47_mkM _ _ _ ⟨t1, 0⟩) (Reps.none _ _))) (by simp) ?_
   case hrun =>
    first | (go_simp; done) | (go_simp; rfl)
   intro v_ w_ ho hfar
   refine hK.out _ _ ⟨v_, r15, b14, (xI_ ha.out 7 hb_ rfl rfl rfl), xD_ (Zz b 13), fun _ _ => ho, xB_ (hoff 15 rfl), xA_ (hoff 18 rfl), fun _ => hfar _ _ (BX.out), hfar _ _ (BT.out), xB_ (hoff 14 rfl)⟩
  refine Za ?_ ?_
  ·rintro b a w' ⟨r13, r15, b14, ha, Q_ALL0, Q_ALL1, Q_ALL2, Q_ALL3, Q_BX, Q_BT, Q_BK14⟩ hb_ hon hoff
   refine ⟨_, rfl, fun K hK => ?_⟩
   have e29 := xG_ ha 7 rfl (hon 13 rfl) rfl rfl
   replace ha := AZ.mk ha
   have ALL1 := AZ.mk (Q_ALL1 (hon 13 rfl) (hoff 15 rfl))
   have BX := AZ.mk (Q_BX (hoff 18 rfl))
   have BT := AZ.mk Q_BT
   obtain ⟨A_, n_, c_, hr_⟩ := (shapes ALL1.out).2.1
   subst hr_
   refine Zw (w1 := ?_) (v := ?_) (by rfl) rfl ?_ ?_
   rotate_left 2
   ·go_simp
    constructor
    ·rfl
    ·rfl
   refine hK.out _ _ ⟨(.slice A_ n_ c_), r15, .slice (some ⟨w'.heap.size, 0, none⟩) 1 1, (xI_ ha.out 8 hb_ rfl rfl rfl), xD_ (hon 13 rfl), fun _ _ => All.alloc (ALL1.out) _, xB_ (hoff 15 rfl), xA_ (hoff 18 rfl), fun _ => ba_ (BX.out) _, ba_ (BT.out) _, fun _ _ => ⟨w'.heap.size, rfl, heap_alloc_new w' _⟩⟩
  refine Za ?_ ?_
  ·rintro b a w' ⟨r13, r15, b14, ha, Q_ALL0, Q_ALL1, Q_ALL2, Q_ALL3, Q_BX, Q_BT, Q_BK14⟩ hb_ hon hoff
   refine ⟨_, rfl, fun K hK => ?_⟩
   have e20 := xG_ ha 0 rfl (hon 4 rfl) rfl rfl
   have e30 := xG_ ha 8 rfl (hon 14 rfl) rfl rfl
   replace ha := AZ.mk ha
   have ALL1 := AZ.mk (Q_ALL1 (hon 13 rfl) hb_)
   have BX := AZ.mk (Q_BX (hoff 18 rfl))
   have BT := AZ.mk Q_BT
   have BK14 := AZ.mk (Q_BK14 (hon 14 rfl) hb_)
   obtain ⟨g_, hq_, hg_⟩ := BK14.out
   refine All.app_C bap ALL1.out (by rfl) (.tmp 20) (.tmp 30) 23 rfl Try.underlying23 bi48 (eval_of e20) g_ ((eval_of e30).trans hq_) hg_ (by have := HLC.out; omega) ?_
   intro v_ w_ ho hfar
   refine hK.out _ _ ⟨r13, v_, b14, (xI_ ha.out 9 hb_ rfl rfl rfl), xD_ (hon 13 rfl), xC_ (Zz b 15), fun _ _ => ho, xA_ (hoff 18 rfl), fun _ => hfar _ _ _ (BX.out) (by decide), hfar _ _ _ (BT.out) (by decide), xC_ (Zz b 15)⟩
  refine Za ?_ ?_
  ·rintro b a w' ⟨r13, r15, b14, ha, Q_ALL0, Q_ALL1, Q_ALL2, Q_ALL3, Q_BX, Q_BT, Q_BK14⟩ hb_ hon hoff
   refine ⟨_, rfl, fun K hK => ?_⟩
   have e16 : a.tmps[16]? = some (.pointer (some ⟨gC, 0, none⟩)) := xH_ ha rfl rfl
   replace ha := AZ.mk ha
   refine Zw (w1 := w') (v := .pointer (some ⟨gC, 0, none⟩)) (by rfl) rfl (by go_simp; (try simp only [i64_w]); try rfl) ?_
   refine hK.out _ _ ⟨r13, r15, b14, (xI_ ha.out 10 hb_ rfl rfl rfl), xD_ (hon 13 rfl), xC_ (hon 15 rfl), Q_ALL2, xA_ (hoff 18 rfl), Q_BX, Q_BT, xC_ (hon 15 rfl)⟩
  refine Za ?_ ?_
  ·rintro b a w' ⟨r13, r15, b14, ha, Q_ALL0, Q_ALL1, Q_ALL2, Q_ALL3, Q_BX, Q_BT, Q_BK14⟩ hb_ hon hoff
   refine ⟨_, rfl, fun K hK => ?_⟩
   have e32 := xG_ ha 10 rfl (hon 16 rfl) rfl rfl
   replace ha := AZ.mk ha
   refine Zw (w1 := w') (v := .pointer (some ⟨gC, 3, none⟩)) (by rfl) rfl (by go_simp; (try simp only [i64_w]); try rfl) ?_
   refine hK.out _ _ ⟨r13, r15, b14, (xI_ ha.out 11 hb_ rfl rfl rfl), xD_ (hon 13 rfl), xC_ (hon 15 rfl), Q_ALL2, xA_ (hoff 18 rfl), Q_BX, Q_BT, xC_ (hon 15 rfl)⟩
  refine Za ?_ ?_
  ·rintro b a w' ⟨r13, r15, b14, ha, Q_ALL0, Q_ALL1, Q_ALL2, Q_ALL3, Q_BX, Q_BT, Q_BK14⟩ hb_ hon hoff
   refine ⟨_, rfl, fun K hK => ?_⟩
   have e33 := xG_ ha 11 rfl (hon 17 rfl) rfl rfl
   have e31 := xG_ ha 9 rfl (hon 15 rfl) rfl rfl
   replace ha := AZ.mk ha
   have ALL2 := AZ.mk (Q_ALL2 (hon 15 rfl) hb_)
   have BT := AZ.mk Q_BT
   obtain ⟨A_, n_, c_, hr_⟩ := (shapes ALL2.out).2.2.2.2.2.1
   subst hr_
   have hc_ : w'.cell? ⟨gC, 3, none⟩ = some (vC) := (bc (All.boxC ALL2.out) 3).trans rfl
   have hf_ := bf (All.boxC ALL2.out) 3
   refine skip_ (w1 := ?_) (by rfl) rfl ?_ ?_
   rotate_left
   ·go_simp
    rfl
   refine hK.out _ _ ⟨r13, (.slice A_ n_ c_), b14, (xJ_ ha.out rfl), xD_ (hon 13 rfl), xC_ (hon 15 rfl), xC_ (Zz b 18), fun _ => (All.set bap ALL2.out 3 _), xD_ (Zz b 18), (Below.heap_setCell _ _ _ _ NT.out).trans BT.out, xC_ (hon 15 rfl)⟩
  exact steps_nil
 ·rintro b a w' hall ⟨r13, r15, b14, ha, Q_ALL0, Q_ALL1, Q_ALL2, Q_ALL3, Q_BX, Q_BT, Q_BK14⟩
  clear ALL0 BT BX
  have hb4_ := hall 4 (by kernel_rfl)
  have hb6_ := hall 6 (by kernel_rfl)
  have hb7_ := hall 7 (by kernel_rfl)
  have hb8_ := hall 8 (by kernel_rfl)
  have hb10_ := hall 10 (by kernel_rfl)
  have hb11_ := hall 11 (by kernel_rfl)
  have hb12_ := hall 12 (by kernel_rfl)
  have hb13_ := hall 13 (by kernel_rfl)
  have hb14_ := hall 14 (by kernel_rfl)
  have hb15_ := hall 15 (by kernel_rfl)
  have hb16_ := hall 16 (by kernel_rfl)
  have hb17_ := hall 17 (by kernel_rfl)
  have hb18_ := hall 18 (by kernel_rfl)
  subst ha
  simp only [Ya, hb4_, hb6_, hb7_, hb8_, hb10_, hb11_, hb12_, hb13_, hb14_, hb15_, hb16_, hb17_, hb18_, if_true, Act.put, sA, sB, sC]
  clear Q_ALL0
  clear Q_ALL1
  clear Q_ALL2
  have ALL3 := AZ.mk (Q_ALL3 hb18_)
  clear Q_ALL3
  clear Q_BX
  have BT := AZ.mk Q_BT
  clear Q_BT
  clear Q_BK14
  clear hall hb4_ hb6_ hb7_ hb8_ hb10_ hb11_ hb12_ hb13_ hb14_ hb15_ hb16_ hb17_ hb18_
  have HO := AZ.mk ALL3.out
  clear ALL3
  go_wp2
  refine start_ (n := 29) (S := fun w' => True) (ds := []) (bz 29 0) (by kernel_rfl) rfl rfl trivial (fun hHeld => ?_)
  refine with_tabW plain.tab2 plain.bits2 (fun HT_ HW_ => ?_)
  have ALL0 := AZ.mk (All.drew HO.out)
  have BX := AZ.mk (All.boxC ALL0.out)
  have n_ := AZ.mk (bd_ BT.out)
  clear HO BT
  have BT := n_
  clear n_
  generalize World.drew _ = wD at ALL0 BX BT hHeld ⊢
  refine pure_ (i := 0) (N := some 34) (v := ?_) (a' := ?_) (bz 29 1) rfl rfl (Zy HT_.out (by kernel_rfl)) (fun _ _ _ h => h) (Or.inl ⟨by rfl, ?_⟩) ?_ ?_
  rotate_left
  ·intro w'
   go_simp
   with_reducible rfl
  rotate_left
  ·simp only [Act.put, sA, sB, sC, i64_w, i32_w]
   rfl
  refine pure_ (i := 1) (N := some 35) (v := ?_) (a' := ?_) (bz 29 3) rfl rfl (Zy HT_.out (by kernel_rfl)) (fun _ _ _ h => h) (Or.inl ⟨by rfl, ?_⟩) ?_ ?_
  rotate_left
  ·intro w'
   go_simp
   with_reducible rfl
  rotate_left
  ·simp only [Act.put, sA, sB, sC, i64_w, i32_w]
   rfl
  refine pure_ (i := 2) (N := some 36) (v := ?_) (a' := ?_) (bz 29 7) rfl rfl (Zy HT_.out (by kernel_rfl)) (fun _ _ _ h => h) (Or.inl ⟨by rfl, ?_⟩) ?_ ?_
  rotate_left
  ·intro w'
   go_simp
   with_reducible rfl
  rotate_left
  ·simp only [Act.put, sA, sB, sC, i64_w, i32_w]
   rfl
  refine pure_ (i := 3) (N := some 37) (v := ?_) (a' := ?_) (bz 29 15) rfl rfl (Zy HT_.out (by kernel_rfl)) (fun _ _ _ h => h) (Or.inl ⟨by rfl, ?_⟩) ?_ ?_
  rotate_left
  ·intro w'
   go_simp
   with_reducible rfl
  rotate_left
  ·simp only [Act.put, sA, sB, sC, i64_w, i32_w]
   rfl
  refine pure_ (i := 5) (N := some 39) (v := ?_) (a' := ?_) (bz 29 47) rfl rfl (Zy HT_.out (by kernel_rfl)) (fun _ _ _ h => h) (Or.inl ⟨by rfl, ?_⟩) ?_ ?_
  rotate_left
  ·intro w'
   go_simp
   with_reducible rfl
  rotate_left
  ·simp only [Act.put, sA, sB, sC, i64_w, i32_w]
   rfl
  refine pure_ (i := 8) (N := some 42) (v := ?_) (a' := ?_) (bz 29 303) rfl rfl (Zy HT_.out (by kernel_rfl)) (fun _ _ _ h => h) (Or.inl ⟨by rfl, ?_⟩) ?_ ?_
  rotate_left
  ·intro w'
   go_simp
   with_reducible rfl
  rotate_left
  ·simp only [Act.put, sA, sB, sC, i64_w, i32_w]
   rfl
  refine pure_ (i := 9) (N := some 43) (v := ?_) (a' := ?_) (bz 29 815) rfl rfl (Zy HT_.out (by kernel_rfl)) (fun _ _ _ h => h) (Or.inl ⟨by rfl, ?_⟩) ?_ ?_
  rotate_left
  ·intro w'
   go_simp
   with_reducible rfl
  rotate_left
  ·simp only [Act.put, sA, sB, sC, i64_w, i32_w]
   rfl
  refine pure_ (i := 10) (N := some 44) (v := ?_) (a' := ?_) (bz 29 1839) rfl rfl (Zy HT_.out (by kernel_rfl)) (fun _ _ _ h => h) (Or.inl ⟨by rfl, ?_⟩) ?_ ?_
  rotate_left
  ·intro w'
   go_simp
   with_reducible rfl
  rotate_left
  ·simp only [Act.put, sA, sB, sC, i64_w, i32_w]
   rfl
  refine pure_ (i := 14) (N := some 48) (v := ?_) (a' := ?_) (bz 29 18223) rfl rfl (Zy HT_.out (by kernel_rfl)) (fun _ _ _ h => h) (Or.inl ⟨by rfl, ?_⟩) ?_ ?_
  rotate_left
  ·intro w'
   go_simp
   with_reducible rfl
  rotate_left
  ·simp only [Act.put, sA, sB, sC, i64_w, i32_w]
   rfl
  refine pure_ (i := 17) (N := some 51) (v := ?_) (a' := ?_) (bz 29 149295) rfl rfl (Zy HT_.out (by kernel_rfl)) (fun _ _ _ h => h) (Or.inl ⟨by rfl, ?_⟩) ?_ ?_
  rotate_left
  ·intro w'
   go_simp
   with_reducible rfl
  rotate_left
  ·simp only [Act.put, sA, sB, sC, i64_w, i32_w]
   rfl
  refine pure_ (i := 18) (N := some 52) (v := ?_) (a' := ?_) (bz 29 411439) rfl rfl (Zy HT_.out (by kernel_rfl)) (fun _ _ _ h => h) (Or.inl ⟨by rfl, ?_⟩) ?_ ?_
  rotate_left
  ·intro w'
   go_simp
   with_reducible rfl
  rotate_left
  ·simp only [Act.put, sA, sB, sC, i64_w, i32_w]
   rfl
  refine pure_ (i := 19) (N := some 53) (v := ?_) (a' := ?_) (bz 29 935727) rfl rfl (Zy HT_.out (by kernel_rfl)) (fun _ _ _ h => h) (Or.inl ⟨by rfl, ?_⟩) ?_ ?_
  rotate_left
  ·intro w'
   go_simp
   with_reducible rfl
  rotate_left
  ·simp only [Act.put, sA, sB, sC, i64_w, i32_w]
   rfl
  refine inv_at [4, 6, 7, 11, 12, 13, 15, 16, 20, 21, 22, 23, 24, 25, 26, 27, 28] (fun a0_ b a w' => ∃ (r13 : Value) (r22 : Value) (r23 : Value) (r25 : Value) (b24 : Value), a = Ya a0_ b [(4, 38, vR), (6, 40, .pointer (some ⟨gT, 2, none⟩)), (7, 41, .int .i64 t2), (11, 45, .int .i64 m), (12, 46, .int .i64 (wrap64 (m + 1))), (13, 47, r13), (15, 49, .pointer (some ⟨gT, 3, none⟩)), (16, 50, .int .i64 t3), (20, 54, .int .i64 m), (21, 55, .int .i64 (wrap64 (m + 1))), (22, 56, r22), (23, 57, r23), (24, 58, b24), (25, 59, r25), (26, 60, .pointer (some ⟨gC, 0, none⟩)), (27, 61, .pointer (some ⟨gC, 4, none⟩))] ∧ (b 13 = false → AllB w0 w' gC gZ (Yc m st (.slice A13 n13 c13) r15 vR vI) cZ' (.slice A13 n13 c13) r15 vR vI (.slice none 0 0) (.slice none 0 0) (.slice none 0 0) (.slice none 0 0) (LA ++ [ac]) (LC ++ [[⟨t0, 0⟩, ⟨t1, 0⟩]]) LR LI [] [] [] []) ∧ (b 13 = true → b 22 = false → AllB w0 w' gC gZ (Yc m st (.slice A13 n13 c13) r15 vR vI) cZ' (.slice A13 n13 c13) r15 vR vI (.slice none 0 0) (.slice none 0 0) r13 (.slice none 0 0) (LA ++ [ac]) (LC ++ [[⟨t0, 0⟩, ⟨t1, 0⟩]]) LR LI [] [] (List.replicate (m + 1).toNat t2) []) ∧ (b 22 = true → b 23 = false → AllB w0 w' gC gZ (Yc m st (.slice A13 n13 c13) r15 vR vI) cZ' (.slice A13 n13 c13) r15 vR vI (.slice none 0 0) (.slice none 0 0) r13 r22 (LA ++ [ac]) (LC ++ [[⟨t0, 0⟩, ⟨t1, 0⟩]]) LR LI [] [] (List.replicate (m + 1).toNat t2) (List.replicate (m + 1).toNat t3)) ∧ (b 23 = true → b 25 = false → AllB w0 w' gC gZ (Yc m st (.slice A13 n13 c13) r15 vR vI) cZ' (.slice A13 n13 c13) r15 vR vI (.slice none 0 0) r23 (.slice none 0 0) (.slice none 0 0) (LA ++ [ac]) (LC ++ [[⟨t0, 0⟩, ⟨t1, 0⟩]]) LR LI [] [(List.replicate (m + 1).toNat t2), (List.replicate (m + 1).toNat t3)] [] []) ∧ (b 25 = true → b 28 = false → AllB w0 w' gC gZ (Yc m st (.slice A13 n13 c13) r15 vR vI) cZ' (.slice A13 n13 c13) r15 r25 vI (.slice none 0 0) (.slice none 0 0) (.slice none 0 0) (.slice none 0 0) (LA ++ [ac]) (LC ++ [[⟨t0, 0⟩, ⟨t1, 0⟩]]) (LR ++ [[(List.replicate (m + 1).toNat t2), (List.replicate (m + 1).toNat t3)]]) LI [] [] [] []) ∧ (b 28 = true → AllB w0 w' gC gZ (Yc m st (.slice A13 n13 c13) r15 r25 vI) cZ' (.slice A13 n13 c13) r15 r25 vI (.slice none 0 0) (.slice none 0 0) (.slice none 0 0) (.slice none 0 0) (LA ++ [ac]) (LC ++ [[⟨t0, 0⟩, ⟨t1, 0⟩]]) (LR ++ [[(List.replicate (m + 1).toNat t2), (List.replicate (m + 1).toNat t3)]]) LI [] [] [] []) ∧ (b 28 = false → w'.heap[gC]? = some (.cells (Yc m st (.slice A13 n13 c13) r15 vR vI) 27 (0, 0))) ∧ (w'.heap[gT]? = some (.cells csT 2 (0, 0))) ∧ (b 24 = true → b 25 = false → ∃ g_ : Nat, b24 = .slice (some ⟨g_, 0, none⟩) 1 1 ∧ w'.heap[g_]? = some (.cells [r23].toArray 25 (0, 0)))) HT_.out HW_.out (by kernel_rfl) (by kernel_rfl) ?_ ?_ ?_
  ·exact ⟨.bool false, .bool false, .bool false, .bool false, .bool false, by simp only [Ya, Bool.false_eq_true, if_false], fun _ => ALL0.out, fun h_ => absurd h_ (by decide), fun h_ => absurd h_ (by decide), fun h_ => absurd h_ (by decide), fun h_ => absurd h_ (by decide), fun h_ => absurd h_ (by decide), fun _ => BX.out, BT.out, fun h_ => absurd h_ (by decide)⟩
  ·skip
   clear ALL0 BT BX
   refine Za ?_ ?_
   ·rintro b a w' ⟨r13, r22, r23, r25, b24, ha, Q_ALL0, Q_ALL1, Q_ALL2, Q_ALL3, Q_ALL4, Q_ALL5, Q_BX, Q_BT, Q_BK24⟩ hb_ hon hoff
    refine ⟨_, rfl, fun K hK => ?_⟩
    have e37 : a.tmps[37]? = some (.pointer (some ⟨gC, 4, none⟩)) := xH_ ha rfl rfl
    replace ha := AZ.mk ha
    have BX := AZ.mk (Q_BX (hoff 28 rfl))
    have hc_ : w'.cell? ⟨gC, 4, none⟩ = some (vR) := (bc BX.out 4).trans rfl
    refine Zw (w1 := w') (v := vR) (by rfl) rfl (by go_simp; (try simp only [i64_w]); try rfl) ?_
    refine hK.out _ _ ⟨r13, r22, r23, r25, b24, (xI_ ha.out 0 hb_ rfl rfl rfl), Q_ALL0, Q_ALL1, Q_ALL2, Q_ALL3, xB_ (hoff 25 rfl), xA_ (hoff 28 rfl), Q_BX, Q_BT, Q_BK24⟩
   refine Za ?_ ?_
   ·rintro b a w' ⟨r13, r22, r23, r25, b24, ha, Q_ALL0, Q_ALL1, Q_ALL2, Q_ALL3, Q_ALL4, Q_ALL5, Q_BX, Q_BT, Q_BK24⟩ hb_ hon hoff
    refine ⟨_, rfl, fun K hK => ?_⟩
    have e39 : a.tmps[39]? = some (.slice (some ⟨gT, 0, none⟩) 6 cT) := xH_ ha rfl rfl
    replace ha := AZ.mk ha
    refine Zw (w1 := w') (v := .pointer (some ⟨gT, 2, none⟩)) (by rfl) rfl (by go_simp; (try simp only [i64_w]); try rfl) ?_
    refine hK.out _ _ ⟨r13, r22, r23, r25, b24, (xI_ ha.out 1 hb_ rfl rfl rfl), Q_ALL0, xB_ (hoff 13 rfl), xB_ (hoff 22 rfl), xB_ (hoff 23 rfl), xB_ (hoff 25 rfl), xA_ (hoff 28 rfl), Q_BX, Q_BT, xB_ (hoff 24 rfl)⟩
   refine Za ?_ ?_
   ·rintro b a w' ⟨r13, r22, r23, r25, b24, ha, Q_ALL0, Q_ALL1, Q_ALL2, Q_ALL3, Q_ALL4, Q_ALL5, Q_BX, Q_BT, Q_BK24⟩ hb_ hon hoff
    refine ⟨_, rfl, fun K hK => ?_⟩
    have e40 := xG_ ha 1 rfl (hon 6 rfl) rfl rfl
    replace ha := AZ.mk ha
    have BT := AZ.mk Q_BT
    have hc_ : w'.cell? ⟨gT, 2, none⟩ = some (.int .i64 t2) := (bc BT.out 2).trans HT2.out
    refine Zw (w1 := w') (v := .int .i64 t2) (by rfl) rfl (by go_simp; (try simp only [i64_w]); try rfl) ?_
    refine hK.out _ _ ⟨r13, r22, r23, r25, b24, (xI_ ha.out 2 hb_ rfl rfl rfl), Q_ALL0, xB_ (hoff 13 rfl), xB_ (hoff 22 rfl), xB_ (hoff 23 rfl), xB_ (hoff 25 rfl), xA_ (hoff 28 rfl), Q_BX, Q_BT, xB_ (hoff 24 rfl)⟩
   refine Za ?_ ?_
   ·rintro b a w' ⟨r13, r22, r23, r25, b24, ha, Q_ALL0, Q_ALL1, Q_ALL2, Q_ALL3, Q_ALL4, Q_ALL5, Q_BX, Q_BT, Q_BK24⟩ hb_ hon hoff
    refine ⟨_, rfl, fun K hK => ?_⟩
    have e44 : a.tmps[44]? = some (.pointer (some ⟨gC, 0, none⟩)) := xH_ ha rfl rfl
    replace ha := AZ.mk ha
    have BX := AZ.mk (Q_BX (hoff 28 rfl))
    have hc_ : w'.cell? ⟨gC, 0, none⟩ = some (.int .i64 m) := (bc BX.out 0).trans rfl
    refine Zw (w1 := w') (v := .int .i64 m) (by rfl) rfl (by go_simp; (try simp only [i64_w]); try rfl) ?_
    refine hK.out _ _ ⟨r13, r22, r23, r25, b24, (xI_ ha.out 3 hb_ rfl rfl rfl), Q_ALL0, xB_ (hoff 13 rfl), xB_ (hoff 22 rfl), xB_ (hoff 23 rfl), xB_ (hoff 25 rfl), xA_ (hoff 28 rfl), Q_BX, Q_BT, xB_ (hoff 24 rfl)⟩
   refine Za ?_ ?_
   ·rintro b a w' ⟨r13, r22, r23, r25, b24, ha, Q_ALL0, Q_ALL1, Q_ALL2, Q_ALL3, Q_ALL4, Q_ALL5, Q_BX, Q_BT, Q_BK24⟩ hb_ hon hoff
    refine ⟨_, rfl, fun K hK => ?_⟩
    have e45 := xG_ ha 3 rfl (hon 11 rfl) rfl rfl
    replace ha := AZ.mk ha
    refine Zw (w1 := w') (v := .int .i64 (wrap64 (m + 1))) (by rfl) rfl (by go_simp; (try simp only [i64_w]); try rfl) ?_
    refine hK.out _ _ ⟨r13, r22, r23, r25, b24, (xI_ ha.out 4 hb_ rfl rfl rfl), Q_ALL0, xB_ (hoff 13 rfl), xB_ (hoff 22 rfl), xB_ (hoff 23 rfl), xB_ (hoff 25 rfl), xA_ (hoff 28 rfl), Q_BX, Q_BT, xB_ (hoff 24 rfl)⟩
   refine Za ?_ ?_
   ·rintro b a w' ⟨r13, r22, r23, r25, b24, ha, Q_ALL0, Q_ALL1, Q_ALL2, Q_ALL3, Q_ALL4, Q_ALL5, Q_BX, Q_BT, Q_BK24⟩ hb_ hon hoff
    refine ⟨_, rfl, fun K hK => ?_⟩
    have e41 := xG_ ha 2 rfl (hon 7 rfl) rfl rfl
    have e46 := xG_ ha 4 rfl (hon 12 rfl) rfl rfl
    replace ha := AZ.mk ha
    have ALL0 := AZ.mk (Q_ALL0 hb_)
    have BX := AZ.mk (Q_BX (hoff 28 rfl))
    have BT := AZ.mk Q_BT
    refine goes_ Try.func53 (by kernel_rfl) rfl #[.int .i64 t2, .int .i64 (wrap64 (m + 1))] (by rfl) rfl rfl (by simp only [mA, mB, mC, eval_of e41, eval_of e46]) ?_
    refine (spec_l02Same.calls 2000 t2 (wrap64 (m + 1)) (List.replicate (m + 1).toNat t2) _ (same_f t2 m HM.out)).mono ?_
    rintro e w_ ⟨v_, rfl, hr, hb⟩
    refine ⟨_, rfl, ?_⟩
    refine hK.out _ _ ⟨v_, r22, r23, r25, b24, (xI_ ha.out 5 hb_ rfl rfl rfl), xD_ (Zz b 13), fun _ _ => (All.row_i ALL0.out hb hr), xB_ (hoff 22 rfl), xB_ (hoff 23 rfl), xB_ (hoff 25 rfl), xA_ (hoff 28 rfl), fun _ => bb_ (BX.out) hb, bb_ (BT.out) hb, xB_ (hoff 24 rfl)⟩
   refine Za ?_ ?_
   ·rintro b a w' ⟨r13, r22, r23, r25, b24, ha, Q_ALL0, Q_ALL1, Q_ALL2, Q_ALL3, Q_ALL4, Q_ALL5, Q_BX, Q_BT, Q_BK24⟩ hb_ hon hoff
    refine ⟨_, rfl, fun K hK => ?_⟩
    have e48 : a.tmps[48]? = some (.slice (some ⟨gT, 0, none⟩) 6 cT) := xH_ ha rfl rfl
    replace ha := AZ.mk ha
    refine Zw (w1 := w') (v := .pointer (some ⟨gT, 3, none⟩)) (by rfl) rfl (by go_simp; (try simp only [i64_w]); try rfl) ?_
    refine hK.out _ _ ⟨r13, r22, r23, r25, b24, (xI_ ha.out 6 hb_ rfl rfl rfl), Q_ALL0, Q_ALL1, xB_ (hoff 22 rfl), xB_ (hoff 23 rfl), xB_ (hoff 25 rfl), xA_ (hoff 28 rfl), Q_BX, Q_BT, xB_ (hoff 24 rfl)⟩
   refine Za ?_ ?_
   ·rintro b a w' ⟨r13, r22, r23, r25, b24, ha, Q_ALL0, Q_ALL1, Q_ALL2, Q_ALL3, Q_ALL4, Q_ALL5, Q_BX, Q_BT, Q_BK24⟩ hb_ hon hoff
    refine ⟨_, rfl, fun K hK => ?_⟩
    have e49 := xG_ ha 6 rfl (hon 15 rfl) rfl rfl
    replace ha := AZ.mk ha
    have BT := AZ.mk Q_BT
    have hc_ : w'.cell? ⟨gT, 3, none⟩ = some (.int .i64 t3) := (bc BT.out 3).trans HT3.out
    refine Zw (w1 := w') (v := .int .i64 t3) (by rfl) rfl (by go_simp; (try simp only [i64_w]); try rfl) ?_
    refine hK.out _ _ ⟨r13, r22, r23, r25, b24, (xI_ ha.out 7 hb_ rfl rfl rfl), Q_ALL0, Q_ALL1, xB_ (hoff 22 rfl), xB_ (hoff 23 rfl), xB_ (hoff 25 rfl), xA_ (hoff 28 rfl), Q_BX, Q_BT, xB_ (hoff 24 rfl)⟩
   refine Za ?_ ?_
   ·rintro b a w' ⟨r13, r22, r23, r25, b24, ha, Q_ALL0, Q_ALL1, Q_ALL2, Q_ALL3, Q_ALL4, Q_ALL5, Q_BX, Q_BT, Q_BK24⟩ hb_ hon hoff
    refine ⟨_, rfl, fun K hK => ?_⟩
    have e53 : a.tmps[53]? = some (.pointer (some ⟨gC, 0, none⟩)) := xH_ ha rfl rfl
    replace ha := AZ.mk ha
    have BX := AZ.mk (Q_BX (hoff 28 rfl))
    have hc_ : w'.cell? ⟨gC, 0, none⟩ = some (.int .i64 m) := (bc BX.out 0).trans rfl
    refine Zw (w1 := w') (v := .int .i64 m) (by rfl) rfl (by go_simp; (try simp only [i64_w]); try rfl) ?_
    refine hK.out _ _ ⟨r13, r22, r23, r25, b24, (xI_ ha.out 8 hb_ rfl rfl rfl), Q_ALL0, Q_ALL1, xB_ (hoff 22 rfl), xB_ (hoff 23 rfl), xB_ (hoff 25 rfl), xA_ (hoff 28 rfl), Q_BX, Q_BT, xB_ (hoff 24 rfl)⟩
   refine Za ?_ ?_
   ·rintro b a w' ⟨r13, r22, r23, r25, b24, ha, Q_ALL0, Q_ALL1, Q_ALL2, Q_ALL3, Q_ALL4, Q_ALL5, Q_BX, Q_BT, Q_BK24⟩ hb_ hon hoff
    refine ⟨_, rfl, fun K hK => ?_⟩
    have e54 := xG_ ha 8 rfl (hon 20 rfl) rfl rfl
    replace ha := AZ.mk ha
    refine Zw (w1 := w') (v := .int .i64 (wrap64 (m + 1))) (by rfl) rfl (by go_simp; (try simp only [i64_w]); try rfl) ?_
    refine hK.out _ _ ⟨r13, r22, r23, r25, b24, (xI_ ha.out 9 hb_ rfl rfl rfl), Q_ALL0, Q_ALL1, xB_ (hoff 22 rfl), xB_ (hoff 23 rfl), xB_ (hoff 25 rfl), xA_ (hoff 28 rfl), Q_BX, Q_BT, xB_ (hoff 24 rfl)⟩
   refine Za ?_ ?_
   ·rintro b a w' ⟨r13, r22, r23, r25, b24, ha, Q_ALL0, Q_ALL1, Q_ALL2, Q_ALL3, Q_ALL4, Q_ALL5, Q_BX, Q_BT, Q_BK24⟩ hb_ hon hoff
    refine ⟨_, rfl, fun K hK => ?_⟩
    have e50 := xG_ ha 7 rfl (hon 16 rfl) rfl rfl
    have e55 := xG_ ha 9 rfl (hon 21 rfl) rfl rfl
    replace ha := AZ.mk ha
    have ALL1 := AZ.mk (Q_ALL1 (hon 13 rfl) hb_)
    have BX := AZ.mk (Q_BX (hoff 28 rfl))
    have BT := AZ.mk Q_BT
    refine goes_ Try.func53 (by kernel_rfl) rfl #[.int .i64 t3, .int .i64 (wrap64 (m + 1))] (by rfl) rfl rfl (by simp only [mA, mB, mC, eval_of e50, eval_of e55]) ?_
    refine (spec_l02Same.calls 2000 t3 (wrap64 (m + 1)) (List.replicate (m + 1).toNat t3) _ (same_f t3 m HM.out)).mono ?_
    rintro e w_ ⟨v_, rfl, hr, hb⟩
    refine ⟨_, rfl, ?_⟩
    refine hK.out _ _ ⟨r13, v_, r23, r25, b24, (xI_ ha.out 10 hb_ rfl rfl rfl), xD_ (hon 13 rfl), xC_ (Zz b 22), fun _ _ => (All.row_l ALL1.out hb hr), xB_ (hoff 23 rfl), xB_ (hoff 25 rfl), xA_ (hoff 28 rfl), fun _ => bb_ (BX.out) hb, bb_ (BT.out) hb, xB_ (hoff 24 rfl)⟩
   refine Za ?_ ?_
   ·rintro b a w' ⟨r13, r22, r23, r25, b24, ha, Q_ALL0, Q_ALL1, Q_ALL2, Q_ALL3, Q_ALL4, Q_ALL5, Q_BX, Q_BT, Q_BK24⟩ hb_ hon hoff
    refine ⟨_, rfl, fun K hK => ?_⟩
    have e47 := xG_ ha 5 rfl (hon 13 rfl) rfl rfl
    have e56 := xG_ ha 10 rfl (hon 22 rfl) rfl rfl
    replace ha := AZ.mk ha
    have ALL2 := AZ.mk (Q_ALL2 (hon 22 rfl) hb_)
    have BX := AZ.mk (Q_BX (hoff 28 rfl))
    have BT := AZ.mk Q_BT
    obtain ⟨Ai_, ni_, ci_, hi_⟩ := (shapes ALL2.out).2.2.2.1
    obtain ⟨Al_, nl_, cl_, hl_⟩ := (shapes ALL2.out).1
    subst hi_
    subst hl_
    refine All.lit_b2 bap ALL2.out (by rfl) (N := 57) rfl ?hrun ?_
    case hrun =>
     first | (go_simp; done) | (go_simp; rfl)
    intro v_ w_ ho hfar
    refine hK.out _ _ ⟨(.slice Ai_ ni_ ci_), (.slice Al_ nl_ cl_), v_, r25, b24, (xI_ ha.out 11 hb_ rfl rfl rfl), xD_ (hon 13 rfl), xC_ (hon 22 rfl), xC_ (Zz b 23), fun _ _ => ho, xB_ (hoff 25 rfl), xA_ (hoff 28 rfl), fun _ => hfar _ _ (BX.out), hfar _ _ (BT.out), xB_ (hoff 24 rfl)⟩
   refine Za ?_ ?_
   ·rintro b a w' ⟨r13, r22, r23, r25, b24, ha, Q_ALL0, Q_ALL1, Q_ALL2, Q_ALL3, Q_ALL4, Q_ALL5, Q_BX, Q_BT, Q_BK24⟩ hb_ hon hoff
    refine ⟨_, rfl, fun K hK => ?_⟩
    have e57 := xG_ ha 11 rfl (hon 23 rfl) rfl rfl
    replace ha := AZ.mk ha
    have ALL3 := AZ.mk (Q_ALL3 (hon 23 rfl) (hoff 25 rfl))
    have BX := AZ.mk (Q_BX (hoff 28 rfl))
    have BT := AZ.mk Q_BT
    obtain ⟨A_, n_, c_, hr_⟩ := (shapes ALL3.out).2.2.1
    subst hr_
    refine Zw (w1 := ?_) (v := ?_) (by rfl) rfl ?_ ?_
    rotate_left 2
    ·go_simp
     constructor
     ·rfl
     ·rfl
    refine hK.out _ _ ⟨r13, r22, (.slice A_ n_ c_), r25, .slice (some ⟨w'.heap.size, 0, none⟩) 1 1, (xI_ ha.out 12 hb_ rfl rfl rfl), xD_ (hon 13 rfl), xC_ (hon 22 rfl), xC_ (hon 23 rfl), fun _ _ => All.alloc (ALL3.out) _, xB_ (hoff 25 rfl), xA_ (hoff 28 rfl), fun _ => ba_ (BX.out) _, ba_ (BT.out) _, fun _ _ => ⟨w'.heap.size, rfl, heap_alloc_new w' _⟩⟩
   refine Za ?_ ?_
   ·rintro b a w' ⟨r13, r22, r23, r25, b24, ha, Q_ALL0, Q_ALL1, Q_ALL2, Q_ALL3, Q_ALL4, Q_ALL5, Q_BX, Q_BT, Q_BK24⟩ hb_ hon hoff
    refine ⟨_, rfl, fun K hK => ?_⟩
    have e38 := xG_ ha 0 rfl (hon 4 rfl) rfl rfl
    have e58 := xG_ ha 12 rfl (hon 24 rfl) rfl rfl
    replace ha := AZ.mk ha
    have ALL3 := AZ.mk (Q_ALL3 (hon 23 rfl) hb_)
    have BX := AZ.mk (Q_BX (hoff 28 rfl))
    have BT := AZ.mk Q_BT
    have BK24 := AZ.mk (Q_BK24 (hon 24 rfl) hb_)
    obtain ⟨g_, hq_, hg_⟩ := BK24.out
    refine All.app_R bap ALL3.out (by rfl) (.tmp 38) (.tmp 58) 24 rfl Try.underlying24 bi25 (eval_of e38) g_ ((eval_of e58).trans hq_) hg_ (by have := HLR.out; omega) ?_
    intro v_ w_ ho hfar
    refine hK.out _ _ ⟨r13, r22, r23, v_, b24, (xI_ ha.out 13 hb_ rfl rfl rfl), xD_ (hon 13 rfl), xC_ (hon 22 rfl), xC_ (hon 23 rfl), xC_ (Zz b 25), fun _ _ => ho, xA_ (hoff 28 rfl), fun _ => hfar _ _ _ (BX.out) (by decide), hfar _ _ _ (BT.out) (by decide), xC_ (Zz b 25)⟩
   refine Za ?_ ?_
   ·rintro b a w' ⟨r13, r22, r23, r25, b24, ha, Q_ALL0, Q_ALL1, Q_ALL2, Q_ALL3, Q_ALL4, Q_ALL5, Q_BX, Q_BT, Q_BK24⟩ hb_ hon hoff
    refine ⟨_, rfl, fun K hK => ?_⟩
    have e34 : a.tmps[34]? = some (.pointer (some ⟨gC, 0, none⟩)) := xH_ ha rfl rfl
    replace ha := AZ.mk ha
    refine Zw (w1 := w') (v := .pointer (some ⟨gC, 0, none⟩)) (by rfl) rfl (by go_simp; (try simp only [i64_w]); try rfl) ?_
    refine hK.out _ _ ⟨r13, r22, r23, r25, b24, (xI_ ha.out 14 hb_ rfl rfl rfl), xD_ (hon 13 rfl), xC_ (hon 22 rfl), xC_ (hon 23 rfl), xC_ (hon 25 rfl), Q_ALL4, xA_ (hoff 28 rfl), Q_BX, Q_BT, xC_ (hon 25 rfl)⟩
   refine Za ?_ ?_
   ·rintro b a w' ⟨r13, r22, r23, r25, b24, ha, Q_ALL0, Q_ALL1, Q_ALL2, Q_ALL3, Q_ALL4, Q_ALL5, Q_BX, Q_BT, Q_BK24⟩ hb_ hon hoff
    refine ⟨_, rfl, fun K hK => ?_⟩
    have e60 := xG_ ha 14 rfl (hon 26 rfl) rfl rfl
    replace ha := AZ.mk ha
    refine Zw (w1 := w') (v := .pointer (some ⟨gC, 4, none⟩)) (by rfl) rfl (by go_simp; (try simp only [i64_w]); try rfl) ?_
    refine hK.out _ _ ⟨r13, r22, r23, r25, b24, (xI_ ha.out 15 hb_ rfl rfl rfl), xD_ (hon 13 rfl), xC_ (hon 22 rfl), xC_ (hon 23 rfl), xC_ (hon 25 rfl), Q_ALL4, xA_ (hoff 28 rfl), Q_BX, Q_BT, xC_ (hon 25 rfl)⟩
   refine Za ?_ ?_
   ·rintro b a w' ⟨r13, r22, r23, r25, b24, ha, Q_ALL0, Q_ALL1, Q_ALL2, Q_ALL3, Q_ALL4, Q_ALL5, Q_BX, Q_BT, Q_BK24⟩ hb_ hon hoff
    refine ⟨_, rfl, fun K hK => ?_⟩
    have e61 := xG_ ha 15 rfl (hon 27 rfl) rfl rfl
    have e59 := xG_ ha 13 rfl (hon 25 rfl) rfl rfl
    replace ha := AZ.mk ha
    have ALL4 := AZ.mk (Q_ALL4 (hon 25 rfl) hb_)
    have BT := AZ.mk Q_BT
    obtain ⟨A_, n_, c_, hr_⟩ := (shapes ALL4.out).2.2.2.2.2.2.1
    subst hr_
    have hc_ : w'.cell? ⟨gC, 4, none⟩ = some (vR) := (bc (All.boxC ALL4.out) 4).trans rfl
    have hf_ := bf (All.boxC ALL4.out) 4
    refine skip_ (w1 := ?_) (by rfl) rfl ?_ ?_
    rotate_left
    ·go_simp
     rfl
    refine hK.out _ _ ⟨r13, r22, r23, (.slice A_ n_ c_), b24, (xJ_ ha.out rfl), xD_ (hon 13 rfl), xC_ (hon 22 rfl), xC_ (hon 23 rfl), xC_ (hon 25 rfl), xC_ (Zz b 28), fun _ => (All.set bap ALL4.out 4 _), xD_ (Zz b 28), (Below.heap_setCell _ _ _ _ NT.out).trans BT.out, xC_ (hon 25 rfl)⟩
   exact steps_nil
  ·rintro b a w' hall ⟨r13, r22, r23, r25, b24, ha, Q_ALL0, Q_ALL1, Q_ALL2, Q_ALL3, Q_ALL4, Q_ALL5, Q_BX, Q_BT, Q_BK24⟩
   clear ALL0 BT BX
   have hb4_ := hall 4 (by kernel_rfl)
   have hb6_ := hall 6 (by kernel_rfl)
   have hb7_ := hall 7 (by kernel_rfl)
   have hb11_ := hall 11 (by kernel_rfl)
   have hb12_ := hall 12 (by kernel_rfl)
   have hb13_ := hall 13 (by kernel_rfl)
   have hb15_ := hall 15 (by kernel_rfl)
   have hb16_ := hall 16 (by kernel_rfl)
   have hb20_ := hall 20 (by kernel_rfl)
   have hb21_ := hall 21 (by kernel_rfl)
   have hb22_ := hall 22 (by kernel_rfl)
   have hb23_ := hall 23 (by kernel_rfl)
   have hb24_ := hall 24 (by kernel_rfl)
   have hb25_ := hall 25 (by kernel_rfl)
   have hb26_ := hall 26 (by kernel_rfl)
   have hb27_ := hall 27 (by kernel_rfl)
   have hb28_ := hall 28 (by kernel_rfl)
   subst ha
   simp only [Ya, hb4_, hb6_, hb7_, hb11_, hb12_, hb13_, hb15_, hb16_, hb20_, hb21_, hb22_, hb23_, hb24_, hb25_, hb26_, hb27_, hb28_, if_true, Act.put, sA, sB, sC]
   clear Q_ALL0
   clear Q_ALL1
   clear Q_ALL2
   clear Q_ALL3
   clear Q_ALL4
   have ALL5 := AZ.mk (Q_ALL5 hb28_)
   clear Q_ALL5
   clear Q_BX
   have BT := AZ.mk Q_BT
   clear Q_BT
   clear Q_BK24
   clear hall hb4_ hb6_ hb7_ hb11_ hb12_ hb13_ hb15_ hb16_ hb20_ hb21_ hb22_ hb23_ hb24_ hb25_ hb26_ hb27_ hb28_
   have HO := AZ.mk ALL5.out
   clear ALL5
   go_wp2
   refine start_ (n := 17) (S := fun w' => True) (ds := []) (bz 17 0) (by kernel_rfl) rfl rfl trivial (fun hHeld => ?_)
   refine with_tabW plain.tab3 plain.bits3 (fun HT_ HW_ => ?_)
   have ALL0 := AZ.mk (All.drew HO.out)
   have BX := AZ.mk (All.boxC ALL0.out)
   have n_ := AZ.mk (bd_ BT.out)
   clear HO BT
   have BT := n_
   clear n_
   generalize World.drew _ = wD at ALL0 BX BT hHeld ⊢
   refine pure_ (i := 0) (N := some 62) (v := ?_) (a' := ?_) (bz 17 1) rfl rfl (Zy HT_.out (by kernel_rfl)) (fun _ _ _ h => h) (Or.inl ⟨by rfl, ?_⟩) ?_ ?_
   rotate_left
   ·intro w'
    go_simp
    with_reducible rfl
   rotate_left
   ·simp only [Act.put, sA, sB, sC, i64_w, i32_w]
    rfl
   refine pure_ (i := 1) (N := some 63) (v := ?_) (a' := ?_) (bz 17 3) rfl rfl (Zy HT_.out (by kernel_rfl)) (fun _ _ _ h => h) (Or.inl ⟨by rfl, ?_⟩) ?_ ?_
   rotate_left
   ·intro w'
    go_simp
    with_reducible rfl
   rotate_left
   ·simp only [Act.put, sA, sB, sC, i64_w, i32_w]
    rfl
   refine pure_ (i := 2) (N := some 64) (v := ?_) (a' := ?_) (bz 17 7) rfl rfl (Zy HT_.out (by kernel_rfl)) (fun _ _ _ h => h) (Or.inl ⟨by rfl, ?_⟩) ?_ ?_
   rotate_left
   ·intro w'
    go_simp
    with_reducible rfl
   rotate_left
   ·simp only [Act.put, sA, sB, sC, i64_w, i32_w]
    rfl
   refine pure_ (i := 3) (N := some 65) (v := ?_) (a' := ?_) (bz 17 15) rfl rfl (Zy HT_.out (by kernel_rfl)) (fun _ _ _ h => h) (Or.inl ⟨by rfl, ?_⟩) ?_ ?_
   rotate_left
   ·intro w'
    go_simp
    with_reducible rfl
   rotate_left
   ·simp only [Act.put, sA, sB, sC, i64_w, i32_w]
    rfl
   refine pure_ (i := 5) (N := some 67) (v := ?_) (a' := ?_) (bz 17 47) rfl rfl (Zy HT_.out (by kernel_rfl)) (fun _ _ _ h => h) (Or.inl ⟨by rfl, ?_⟩) ?_ ?_
   rotate_left
   ·intro w'
    go_simp
    with_reducible rfl
   rotate_left
   ·simp only [Act.put, sA, sB, sC, i64_w, i32_w]
    rfl
   refine pure_ (i := 8) (N := some 70) (v := ?_) (a' := ?_) (bz 17 303) rfl rfl (Zy HT_.out (by kernel_rfl)) (fun _ _ _ h => h) (Or.inl ⟨by rfl, ?_⟩) ?_ ?_
   rotate_left
   ·intro w'
    go_simp
    with_reducible rfl
   rotate_left
   ·simp only [Act.put, sA, sB, sC, i64_w, i32_w]
    rfl
   refine inv_at [4, 6, 7, 9, 10, 11, 12, 13, 14, 15, 16] (fun a0_ b a w' => ∃ (r11 : Value) (r13 : Value) (b12 : Value), a = Ya a0_ b [(4, 66, vI), (6, 68, .pointer (some ⟨gT, 4, none⟩)), (7, 69, .int .i64 t4), (9, 71, .pointer (some ⟨gT, 5, none⟩)), (10, 72, .int .i64 t5), (11, 73, r11), (12, 74, b12), (13, 75, r13), (14, 76, .pointer (some ⟨gC, 0, none⟩)), (15, 77, .pointer (some ⟨gC, 5, none⟩))] ∧ (b 11 = false → AllB w0 w' gC gZ (Yc m st (.slice A13 n13 c13) r15 r25 vI) cZ' (.slice A13 n13 c13) r15 r25 vI (.slice none 0 0) (.slice none 0 0) (.slice none 0 0) (.slice none 0 0) (LA ++ [ac]) (LC ++ [[⟨t0, 0⟩, ⟨t1, 0⟩]]) (LR ++ [[(List.replicate (m + 1).toNat t2), (List.replicate (m + 1).toNat t3)]]) LI [] [] [] []) ∧ (b 11 = true → b 13 = false → AllB w0 w' gC gZ (Yc m st (.slice A13 n13 c13) r15 r25 vI) cZ' (.slice A13 n13 c13) r15 r25 vI (.slice none 0 0) (.slice none 0 0) r11 (.slice none 0 0) (LA ++ [ac]) (LC ++ [[⟨t0, 0⟩, ⟨t1, 0⟩]]) (LR ++ [[(List.replicate (m + 1).toNat t2), (List.replicate (m + 1).toNat t3)]]) LI [] [] [t4, t5] []) ∧ (b 13 = true → b 16 = false → AllB w0 w' gC gZ (Yc m st (.slice A13 n13 c13) r15 r25 vI) cZ' (.slice A13 n13 c13) r15 r25 r13 (.slice none 0 0) (.slice none 0 0) (.slice none 0 0) (.slice none 0 0) (LA ++ [ac]) (LC ++ [[⟨t0, 0⟩, ⟨t1, 0⟩]]) (LR ++ [[(List.replicate (m + 1).toNat t2), (List.replicate (m + 1).toNat t3)]]) (LI ++ [[t4, t5]]) [] [] [] []) ∧ (b 16 = true → AllB w0 w' gC gZ (Yc m st (.slice A13 n13 c13) r15 r25 r13) cZ' (.slice A13 n13 c13) r15 r25 r13 (.slice none 0 0) (.slice none 0 0) (.slice none 0 0) (.slice none 0 0) (LA ++ [ac]) (LC ++ [[⟨t0, 0⟩, ⟨t1, 0⟩]]) (LR ++ [[(List.replicate (m + 1).toNat t2), (List.replicate (m + 1).toNat t3)]]) (LI ++ [[t4, t5]]) [] [] [] []) ∧ (b 16 = false → w'.heap[gC]? = some (.cells (Yc m st (.slice A13 n13 c13) r15 r25 vI) 27 (0, 0))) ∧ (w'.heap[gT]? = some (.cells csT 2 (0, 0))) ∧ (b 12 = true → b 13 = false → ∃ g_ : Nat, b12 = .slice (some ⟨g_, 0, none⟩) 1 1 ∧ w'.heap[g_]? = some (.cells [r11].toArray 49 (0, 0)))) HT_.out HW_.out (by kernel_rfl) (by kernel_rfl) ?_ ?_ ?_
   ·exact ⟨.bool false, .bool false, .bool false, by simp only [Ya, Bool.false_eq_true, if_false], fun _ => ALL0.out, fun h_ => absurd h_ (by decide), fun h_ => absurd h_ (by decide), fun h_ => absurd h_ (by decide), fun _ => BX.out, BT.out, fun h_ => absurd h_ (by decide)⟩
   ·skip
    clear ALL0 BT BX
    refine Za ?_ ?_
    ·rintro b a w' ⟨r11, r13, b12, ha, Q_ALL0, Q_ALL1, Q_ALL2, Q_ALL3, Q_BX, Q_BT, Q_BK12⟩ hb_ hon hoff
     refine ⟨_, rfl, fun K hK => ?_⟩
     have e65 : a.tmps[65]? = some (.pointer (some ⟨gC, 5, none⟩)) := xH_ ha rfl rfl
     replace ha := AZ.mk ha
     have BX := AZ.mk (Q_BX (hoff 16 rfl))
     have hc_ : w'.cell? ⟨gC, 5, none⟩ = some (vI) := (bc BX.out 5).trans rfl
     refine Zw (w1 := w') (v := vI) (by rfl) rfl (by go_simp; (try simp only [i64_w]); try rfl) ?_
     refine hK.out _ _ ⟨r11, r13, b12, (xI_ ha.out 0 hb_ rfl rfl rfl), Q_ALL0, Q_ALL1, xB_ (hoff 13 rfl), xA_ (hoff 16 rfl), Q_BX, Q_BT, Q_BK12⟩
    refine Za ?_ ?_
    ·rintro b a w' ⟨r11, r13, b12, ha, Q_ALL0, Q_ALL1, Q_ALL2, Q_ALL3, Q_BX, Q_BT, Q_BK12⟩ hb_ hon hoff
     refine ⟨_, rfl, fun K hK => ?_⟩
     have e67 : a.tmps[67]? = some (.slice (some ⟨gT, 0, none⟩) 6 cT) := xH_ ha rfl rfl
     replace ha := AZ.mk ha
     refine Zw (w1 := w') (v := .pointer (some ⟨gT, 4, none⟩)) (by rfl) rfl (by go_simp; (try simp only [i64_w]); try rfl) ?_
     refine hK.out _ _ ⟨r11, r13, b12, (xI_ ha.out 1 hb_ rfl rfl rfl), Q_ALL0, xB_ (hoff 11 rfl), xB_ (hoff 13 rfl), xA_ (hoff 16 rfl), Q_BX, Q_BT, xB_ (hoff 12 rfl)⟩
    refine Za ?_ ?_
    ·rintro b a w' ⟨r11, r13, b12, ha, Q_ALL0, Q_ALL1, Q_ALL2, Q_ALL3, Q_BX, Q_BT, Q_BK12⟩ hb_ hon hoff
     refine ⟨_, rfl, fun K hK => ?_⟩
     have e68 := xG_ ha 1 rfl (hon 6 rfl) rfl rfl
     replace ha := AZ.mk ha
     have BT := AZ.mk Q_BT
     have hc_ : w'.cell? ⟨gT, 4, none⟩ = some (.int .i64 t4) := (bc BT.out 4).trans HT4.out
     refine Zw (w1 := w') (v := .int .i64 t4) (by rfl) rfl (by go_simp; (try simp only [i64_w]); try rfl) ?_
     refine hK.out _ _ ⟨r11, r13, b12, (xI_ ha.out 2 hb_ rfl rfl rfl), Q_ALL0, xB_ (hoff 11 rfl), xB_ (hoff 13 rfl), xA_ (hoff 16 rfl), Q_BX, Q_BT, xB_ (hoff 12 rfl)⟩
    refine Za ?_ ?_
    ·rintro b a w' ⟨r11, r13, b12, ha, Q_ALL0, Q_ALL1, Q_ALL2, Q_ALL3, Q_BX, Q_BT, Q_BK12⟩ hb_ hon hoff
     refine ⟨_, rfl, fun K hK => ?_⟩
     have e70 : a.tmps[70]? = some (.slice (some ⟨gT, 0, none⟩) 6 cT) := xH_ ha rfl rfl
     replace ha := AZ.mk ha
     refine Zw (w1 := w') (v := .pointer (some ⟨gT, 5, none⟩)) (by rfl) rfl (by go_simp; (try simp only [i64_w]); try rfl) ?_
     refine hK.out _ _ ⟨r11, r13, b12, (xI_ ha.out 3 hb_ rfl rfl rfl), Q_ALL0, xB_ (hoff 11 rfl), xB_ (hoff 13 rfl), xA_ (hoff 16 rfl), Q_BX, Q_BT, xB_ (hoff 12 rfl)⟩
    refine Za ?_ ?_
    ·rintro b a w' ⟨r11, r13, b12, ha, Q_ALL0, Q_ALL1, Q_ALL2, Q_ALL3, Q_BX, Q_BT, Q_BK12⟩ hb_ hon hoff
     refine ⟨_, rfl, fun K hK => ?_⟩
     have e71 := xG_ ha 3 rfl (hon 9 rfl) rfl rfl
     replace ha := AZ.mk ha
     have BT := AZ.mk Q_BT
     have hc_ : w'.cell? ⟨gT, 5, none⟩ = some (.int .i64 t5) := (bc BT.out 5).trans HT5.out
     refine Zw (w1 := w') (v := .int .i64 t5) (by rfl) rfl (by go_simp; (try simp only [i64_w]); try rfl) ?_
     refine hK.out _ _ ⟨r11, r13, b12, (xI_ ha.out 4 hb_ rfl rfl rfl), Q_ALL0, xB_ (hoff 11 rfl), xB_ (hoff 13 rfl), xA_ (hoff 16 rfl), Q_BX, Q_BT, xB_ (hoff 12 rfl)⟩
    refine Za ?_ ?_
    ·rintro b a w' ⟨r11, r13, b12, ha, Q_ALL0, Q_ALL1, Q_ALL2, Q_ALL3, Q_BX, Q_BT, Q_BK12⟩ hb_ hon hoff
     refine ⟨_, rfl, fun K hK => ?_⟩
     have e69 := xG_ ha 2 rfl (hon 7 rfl) rfl rfl
     have e72 := xG_ ha 4 rfl (hon 10 rfl) rfl rfl
     replace ha := AZ.mk ha
     have ALL0 := AZ.mk (Q_ALL0 hb_)
     have BX := AZ.mk (Q_BX (hoff 16 rfl))
     have BT := AZ.mk Q_BT
     refine All.litx_i bap ALL0.out (by rfl) (N := 73) rfl [t4, t5] [.int .i64 t4, .int .i64 t5] ?hrun (Reps.one rfl (Reps.one rfl (Reps.none _ _))) (by simp) ?_
     case hrun =>
      first | (go_simp; done) | (go_simp; rfl)
     intro v_ w_ ho hfar
     refine hK.out _ _ ⟨v_, r13, b12, (xI_ ha.out 5 hb_ rfl rfl rfl), xD_ (Zz b 11), fun _ _ => ho, xB_ (hoff 13 rfl), xA_ (hoff 16 rfl), fun _ => hfar _ _ (BX.out), hfar _ _ (BT.out), xB_ (hoff 12 rfl)⟩
    refine Za ?_ ?_
    ·rintro b a w' ⟨r11, r13, b12, ha, Q_ALL0, Q_ALL1, Q_ALL2, Q_ALL3, Q_BX, Q_BT, Q_BK12⟩ hb_ hon hoff
     refine ⟨_, rfl, fun K hK => ?_⟩
     have e73 := xG_ ha 5 rfl (hon 11 rfl) rfl rfl
     replace ha := AZ.mk ha
     have ALL1 := AZ.mk (Q_ALL1 (hon 11 rfl) (hoff 13 rfl))
     have BX := AZ.mk (Q_BX (hoff 16 rfl))
     have BT := AZ.mk Q_BT
     obtain ⟨A_, n_, c_, hr_⟩ := (shapes ALL1.out).2.2.2.1
     subst hr_
     refine Zw (w1 := ?_) (v := ?_) (by rfl) rfl ?_ ?_
     rotate_left 2
     ·go_simp
      constructor
      ·rfl
      ·rfl
     refine hK.out _ _ ⟨(.slice A_ n_ c_), r13, .slice (some ⟨w'.heap.size, 0, none⟩) 1 1, (xI_ ha.out 6 hb_ rfl rfl rfl), xD_ (hon 11 rfl), fun _ _ => All.alloc (ALL1.out) _, xB_ (hoff 13 rfl), xA_ (hoff 16 rfl), fun _ => ba_ (BX.out) _, ba_ (BT.out) _, fun _ _ => ⟨w'.heap.size, rfl, heap_alloc_new w' _⟩⟩
    refine Za ?_ ?_
    ·rintro b a w' ⟨r11, r13, b12, ha, Q_ALL0, Q_ALL1, Q_ALL2, Q_ALL3, Q_BX, Q_BT, Q_BK12⟩ hb_ hon hoff
     refine ⟨_, rfl, fun K hK => ?_⟩
     have e66 := xG_ ha 0 rfl (hon 4 rfl) rfl rfl
     have e74 := xG_ ha 6 rfl (hon 12 rfl) rfl rfl
     replace ha := AZ.mk ha
     have ALL1 := AZ.mk (Q_ALL1 (hon 11 rfl) hb_)
     have BX := AZ.mk (Q_BX (hoff 16 rfl))
     have BT := AZ.mk Q_BT
     have BK12 := AZ.mk (Q_BK12 (hon 12 rfl) hb_)
     obtain ⟨g_, hq_, hg_⟩ := BK12.out
     refine All.app_I bap ALL1.out (by rfl) (.tmp 66) (.tmp 74) 25 rfl Try.underlying25 bi49 (eval_of e66) g_ ((eval_of e74).trans hq_) hg_ (by have := HLI.out; omega) ?_
     intro v_ w_ ho hfar
     refine hK.out _ _ ⟨r11, v_, b12, (xI_ ha.out 7 hb_ rfl rfl rfl), xD_ (hon 11 rfl), xC_ (Zz b 13), fun _ _ => ho, xA_ (hoff 16 rfl), fun _ => hfar _ _ _ (BX.out) (by decide), hfar _ _ _ (BT.out) (by decide), xC_ (Zz b 13)⟩
    refine Za ?_ ?_
    ·rintro b a w' ⟨r11, r13, b12, ha, Q_ALL0, Q_ALL1, Q_ALL2, Q_ALL3, Q_BX, Q_BT, Q_BK12⟩ hb_ hon hoff
     refine ⟨_, rfl, fun K hK => ?_⟩
     have e62 : a.tmps[62]? = some (.pointer (some ⟨gC, 0, none⟩)) := xH_ ha rfl rfl
     replace ha := AZ.mk ha
     refine Zw (w1 := w') (v := .pointer (some ⟨gC, 0, none⟩)) (by rfl) rfl (by go_simp; (try simp only [i64_w]); try rfl) ?_
     refine hK.out _ _ ⟨r11, r13, b12, (xI_ ha.out 8 hb_ rfl rfl rfl), xD_ (hon 11 rfl), xC_ (hon 13 rfl), Q_ALL2, xA_ (hoff 16 rfl), Q_BX, Q_BT, xC_ (hon 13 rfl)⟩
    refine Za ?_ ?_
    ·rintro b a w' ⟨r11, r13, b12, ha, Q_ALL0, Q_ALL1, Q_ALL2, Q_ALL3, Q_BX, Q_BT, Q_BK12⟩ hb_ hon hoff
     refine ⟨_, rfl, fun K hK => ?_⟩
     have e76 := xG_ ha 8 rfl (hon 14 rfl) rfl rfl
     replace ha := AZ.mk ha
     refine Zw (w1 := w') (v := .pointer (some ⟨gC, 5, none⟩)) (by rfl) rfl (by go_simp; (try simp only [i64_w]); try rfl) ?_
     refine hK.out _ _ ⟨r11, r13, b12, (xI_ ha.out 9 hb_ rfl rfl rfl), xD_ (hon 11 rfl), xC_ (hon 13 rfl), Q_ALL2, xA_ (hoff 16 rfl), Q_BX, Q_BT, xC_ (hon 13 rfl)⟩
    refine Za ?_ ?_
    ·rintro b a w' ⟨r11, r13, b12, ha, Q_ALL0, Q_ALL1, Q_ALL2, Q_ALL3, Q_BX, Q_BT, Q_BK12⟩ hb_ hon hoff
     refine ⟨_, rfl, fun K hK => ?_⟩
     have e77 := xG_ ha 9 rfl (hon 15 rfl) rfl rfl
     have e75 := xG_ ha 7 rfl (hon 13 rfl) rfl rfl
     replace ha := AZ.mk ha
     have ALL2 := AZ.mk (Q_ALL2 (hon 13 rfl) hb_)
     have BT := AZ.mk Q_BT
     obtain ⟨A_, n_, c_, hr_⟩ := (shapes ALL2.out).2.2.2.2.2.2.2
     subst hr_
     have hc_ : w'.cell? ⟨gC, 5, none⟩ = some (vI) := (bc (All.boxC ALL2.out) 5).trans rfl
     have hf_ := bf (All.boxC ALL2.out) 5
     refine skip_ (w1 := ?_) (by rfl) rfl ?_ ?_
     rotate_left
     ·go_simp
      rfl
     refine hK.out _ _ ⟨r11, (.slice A_ n_ c_), b12, (xJ_ ha.out rfl), xD_ (hon 11 rfl), xC_ (hon 13 rfl), xC_ (Zz b 16), fun _ => (All.set bap ALL2.out 5 _), xD_ (Zz b 16), (Below.heap_setCell _ _ _ _ NT.out).trans BT.out, xC_ (hon 13 rfl)⟩
    exact steps_nil
   ·rintro b a w' hall ⟨r11, r13, b12, ha, Q_ALL0, Q_ALL1, Q_ALL2, Q_ALL3, Q_BX, Q_BT, Q_BK12⟩
    clear ALL0 BT BX
    have hb4_ := hall 4 (by kernel_rfl)
    have hb6_ := hall 6 (by kernel_rfl)
    have hb7_ := hall 7 (by kernel_rfl)
    have hb9_ := hall 9 (by kernel_rfl)
    have hb10_ := hall 10 (by kernel_rfl)
    have hb11_ := hall 11 (by kernel_rfl)
    have hb12_ := hall 12 (by kernel_rfl)
    have hb13_ := hall 13 (by kernel_rfl)
    have hb14_ := hall 14 (by kernel_rfl)
    have hb15_ := hall 15 (by kernel_rfl)
    have hb16_ := hall 16 (by kernel_rfl)
    subst ha
    simp only [Ya, hb4_, hb6_, hb7_, hb9_, hb10_, hb11_, hb12_, hb13_, hb14_, hb15_, hb16_, if_true, Act.put, sA, sB, sC]
    clear Q_ALL0
    clear Q_ALL1
    clear Q_ALL2
    have ALL3 := AZ.mk (Q_ALL3 hb16_)
    clear Q_ALL3
    clear Q_BX
    have BT := AZ.mk Q_BT
    clear Q_BT
    clear Q_BK12
    clear hall hb4_ hb6_ hb7_ hb9_ hb10_ hb11_ hb12_ hb13_ hb14_ hb15_ hb16_
    have HO := AZ.mk ALL3.out
    refine bodyPost_end (results_none rfl _ _ _) rfl ?_
    exact ⟨_, _, _, _, rfl, HO.out⟩
end Go.Proofs.Ytepkfigcnnfoaaa.P
namespace Go.Proofs.Ytepkfigcnnfoaaa.P
open Go.RowKit Go.Proofs.YtepkfigcnnfoaaaW.PrintWords Go.Proofs.YtepkfigcnnfoaaaW.PrintLast Go.Proofs.YtepkfigcnnfoaaaW.PrintMore
attribute [local go_sem] Zk Zm Zu Zv Zg Zh Zn Zp
def spec_l01Symbol.l0 : Nat → Int → Int → Option (Int)
 | 0, _, _ => none
 | k + 1, x0, x3 => if x3 < 6 then (if 0 ≤ x3 then (if (bt (⟨#[40, 91, 41, 93, 97, 98]⟩ : ByteArray) x3) = x0 then (some x3) else (spec_l01Symbol.l0 k x0 (wrap64 (x3 + 1)))) else (none)) else (some (-1))
def spec_l01Symbol.f (k : Nat) (a0 : Int) : Option (Int) := spec_l01Symbol.l0 k a0 0
theorem spec_l01Symbol.calls (k : Nat) (a0 : Int) (r : Int) (w : World) (h : spec_l01Symbol.f k a0 = some r) :
  Calls Try.prog 59 #[.int .u8 a0] w fun e w' => e = .returned (.int .i64 r) ∧ Drawn0 w w' := by
 have H : (spec_l01Symbol.l0 k a0 0) = some r := h
 clear h
 have H' := AZ.mk H
 clear H
 go_enter Try.func59, Try.ntmps59
 go_wp2
 go_loopg [3] k (fun kq v3 w' => ∃ (x3_1 : Int), v3 = .int .i64 x3_1 ∧ AZ (spec_l01Symbol.l0 kq a0 x3_1 = some r) ∧ AZ (kq ≤ k) ∧ Drawn0 w w')
 case atStart => exact ⟨(0), (by first | rfl | (simp; done) | (simp [*]; done)), H', ⟨Nat.le_refl _⟩, by repeat (first | exact Drawn0.refl _ | apply Drawn0.step)⟩
 case round =>
  clear H'
  obtain ⟨x3_1, rfl, HA, HK1, ⟨m1, rfl⟩⟩ := hrel
  cases gk with
  | zero => exact absurd HA.out (by simp [spec_l01Symbol.l0])
  | succ k1 =>
   have H := HA.out
   clear HA
   simp only [spec_l01Symbol.l0] at H
   by_cases c2 : x3_1 < 6
   rotate_left
   ·rw [if_neg c2] at H
    have c2b0 : decide (x3_1 < 6) = false := dF c2
    clear c2
    obtain rfl := oJ H
    go_wp2
    go_ret
    exact ⟨by first | rfl | (simp; done) | (simp [*]; done), by repeat (first | exact Drawn0.refl _ | apply Drawn0.step)⟩
   rw [if_pos c2] at H
   have c2b0 : decide (x3_1 < 6) = true := dT c2
   clear c2
   by_cases c3 : 0 ≤ x3_1
   rotate_left
   ·rw [if_neg c3] at H
    exact absurd H (by simp)
   rw [if_pos c3] at H
   have c3b0 : decide (0 ≤ x3_1) = true := dT c3
   clear c3
   by_cases c5 : (bt (⟨#[40, 91, 41, 93, 97, 98]⟩ : ByteArray) x3_1) = a0
   ·rw [if_pos c5] at H
    have c5b0 : ((bt (⟨#[40, 91, 41, 93, 97, 98]⟩ : ByteArray) x3_1) == a0) = true := beq_iff_eq.mpr c5
    have c5b1 : ((bt (⟨#[40, 91, 41, 93, 97, 98]⟩ : ByteArray) x3_1) != a0) = false := bne_eq_false_iff_eq.mpr c5
    clear c5
    obtain rfl := oJ H
    have p4 : 0 ≤ (x3_1 : Int) := oT (by first | (with_reducible assumption) | assumption)
    have q4 : x3_1 < (6 : Int) := oT (by first | (with_reducible assumption) | assumption)
    have hx4 := bt_at (⟨#[40, 91, 41, 93, 97, 98]⟩ : ByteArray) x3_1
    replace p4 := eq_true p4
    replace q4 := eq_true q4
    go_wp2
    go_ret
    exact ⟨by first | rfl | (simp; done) | (simp [*]; done), by repeat (first | exact Drawn0.refl _ | apply Drawn0.step)⟩
   rw [if_neg c5] at H
   have c5b0 : ((bt (⟨#[40, 91, 41, 93, 97, 98]⟩ : ByteArray) x3_1) == a0) = false := beq_eq_false_iff_ne.mpr c5
   have c5b1 : ((bt (⟨#[40, 91, 41, 93, 97, 98]⟩ : ByteArray) x3_1) != a0) = true := bne_iff_ne.mpr c5
   have H' := AZ.mk H
   clear H
   have p4 : 0 ≤ (x3_1 : Int) := oT (by first | (with_reducible assumption) | assumption)
   have q4 : x3_1 < (6 : Int) := oT (by first | (with_reducible assumption) | assumption)
   have hx4 := bt_at (⟨#[40, 91, 41, 93, 97, 98]⟩ : ByteArray) x3_1
   replace p4 := eq_true p4
   replace q4 := eq_true q4
   go_wp2
   go_roundg k1
   case measure => have := HK1.out; omega
   case rel => exact ⟨(wrap64 (x3_1 + 1)), (by first | rfl | (simp; done) | (simp [*]; done)), H', ⟨by have := HK1.out; omega⟩, by repeat (first | exact Drawn0.refl _ | apply Drawn0.step)⟩
end Go.Proofs.Ytepkfigcnnfoaaa.P
namespace Go.Proofs.Ytepkfigcnnfoaaa.P
open Go.RowKit Go.Proofs.YtepkfigcnnfoaaaW.PrintWords Go.Proofs.YtepkfigcnnfoaaaW.PrintLast Go.Proofs.YtepkfigcnnfoaaaW.PrintMore Go.Proofs.Ytepkfigcnnfoaaa.Deep
namespace Count
def scount.T8 : Bool × List (List Nat × List Nat) := (true, [([], []), ([], []), ([1], [1]), ([2], [2]), ([], []), ([4], [4]), ([], []), ([5, 6], [5, 6]), ([0, 3, 0, 1, 2, 3, 4, 5, 6, 7], [0, 3]), ([8, 7, 3, 0, 1, 2, 3, 4, 5, 6, 7], [7, 8])])
def scount.B8 : List Nat := [0, 0, 2, 6, 0, 16, 0, 112, 255, 511]
theorem scount.tab8 : rtab .any (opsOf Try.f19 8) = scount.T8 := by kernel_rfl
theorem scount.bits8 : waitsOk scount.T8.2 scount.B8 = true := by kernel_rfl
theorem six_at {w w' W : World} {gC gZ : Nat} {cC cZ : Array Value} {vA vC vR vI vc vb vi vl v : Value} {LA : List Bool} {LC : List (List S47)} {LR : List (List (List Int))} {LI : List (List Int)} {lc : List S47} {lb : List (List Int)} {li ll : List Int} {t : Int} {ok : Nat → Prop} (hA : AllB w W gC gZ cC cZ vA vC vR vI vc vb vi vl LA LC LR LI lc lb li ll) (h : (Kd.int .i64).R 2 w' W.heap.size ok v (List.replicate 6 t)) (hb : Below W.heap.size W w') : ∃ (wR : World) (g c : Nat) (cs : Array Value), v = .slice (some ⟨g, 0, none⟩) 6 c ∧ AllB w wR gC gZ cC cZ vA vC vR vI vc vb vi vl LA LC LR LI lc lb li ll ∧ Below wR.heap.size wR w' ∧ wR.heap.size ≤ g ∧ w'.heap[g]? = some (.cells cs 2 (0, 0)) ∧ ∀ j, j < 6 → cs[j]? = some (.int .i64 t) := by
 obtain ⟨g, c, rfl, hg, _, cs, hcs⟩ := Kd.R_form h (by simp)
 refine ⟨W, g, c, cs, rfl, hA, hb, hg, hcs, fun j hj => ?_⟩
 have h1 := (Kd.R_celln (0 : Int) h (j : Int) (by omega) (by simp; omega)).1
 have h2 := bc hcs j
 rw [show ((j : Int)).toNat = j from by simp] at h1
 rw [← h2, h1]
 have h3 : rdOf (0 : Int) (List.replicate 6 t) (j : Int) = t := by
  unfold rdOf
  rw [Int.toNat_natCast, List.getD_eq_getElem?_getD, List.getElem?_replicate, if_pos hj]; rfl
 rw [h3]
theorem new_cells (x : Int) (mN d : Nat) (j : Int) (cs : Array Value) (hj : 0 ≤ j ∧ j < 6) (hx : ∀ c : Nat, c < 6 → (bt (⟨#[40, 91, 41, 93, 97, 98]⟩ : ByteArray) (c : Int) = x ↔ (c : Int) = j)) (hd : d < mN) (hm : 1 ≤ mN ∧ mN ≤ 40) (h : ∀ k, k < 6 → cs[k]? = some (.int .i64 (d : Int))) : ∀ c, c < 6 → (cs.setIfInBounds j.toNat (.int .i64 (Int.tmod (wrap64 ((d : Int) + 1)) (mN : Int))))[c]? = some (.int .i64 (nx x mN d c)) := by
 intro c hc
 have hz : cs.size ≥ 6 := by have := (Array.getElem?_eq_some_iff.1 (h 5 (by decide))).1; omega
 rw [Array.getElem?_setIfInBounds]
 have hw : wrap64 ((d : Int) + 1) = (d : Int) + 1 := bw' _ (by omega) (by omega)
 by_cases e : (c : Int) = j
 ·rw [if_pos (by omega), if_pos (by omega), hw]
  unfold nx
  rw [if_pos ((hx c hc).2 e)]
 ·rw [if_neg (by omega), h c hc]
  unfold nx
  rw [if_neg (fun q => e ((hx c hc).1 q)), Int.tmod_eq_of_lt (by omega) (by omega)]
theorem suc1 (d : Nat) : LAs acc (d + 1) = LAs acc d ++ [acc d] := by simp [LAs, List.range_succ]
theorem suc2 (x m : Int) (d : Nat) : LCs (call x m) (d + 1) = LCs (call x m) d ++ [[⟨nx x m d 0, 0⟩, ⟨nx x m d 1, 0⟩]] := by simp [LCs, call, List.range_succ]
theorem suc3 (x m : Int) (d : Nat) : LRs 1 (back x m) (d + 1) = LRs 1 (back x m) d ++ [[List.replicate ((1 : Int) + 1).toNat (nx x m d 2), List.replicate ((1 : Int) + 1).toNat (nx x m d 3)]] := by simp [LRs, rowL, back, List.range_succ]
theorem suc4 (x m : Int) (d : Nat) : LIs (inner x m) (d + 1) = LIs (inner x m) d ++ [[nx x m d 4, nx x m d 5]] := by simp [LIs, inner, List.range_succ]
theorem reads_nil0 (w : World) : Reads w Zx Zx Zx Zx [] [] [] [] := ⟨⟨none, 0, rfl, Nat.le_refl _, Kd.C_nil _ _⟩, ⟨none, 0, rfl, Nat.le_refl _, Kd.C_nil _ _⟩, ⟨none, 0, rfl, Nat.le_refl _, Kd.C_nil _ _⟩, ⟨none, 0, rfl, Nat.le_refl _, Kd.C_nil _ _⟩⟩
theorem own_of {w w' : World} {gC gZ : Nat} {cC cZ : Array Value} {vA vC vR vI vc vb vi vl : Value} {LA : List Bool} {LC : List (List S47)} {LR : List (List (List Int))} {LI : List (List Int)} {lc : List S47} {lb : List (List Int)} {li ll : List Int} (h : AllB w w' gC gZ cC cZ vA vC vR vI vc vb vi vl LA LC LR LI lc lb li ll) : OwnC w' w.heap.size vA vC vR vI LA LC LR LI := by
 obtain ⟨_, _, _, _, f, h0, h1, h2, h3, _⟩ := h
 exact ⟨f, h0, h1, h2, h3⟩
theorem spec_ok (ks : Nat) (sy : ByteArray) (hsy : sy.size = 1) (j : Int) (hj : spec_l01Symbol.f ks (bt sy 0) = some j) (j0 : 0 ≤ j) (j6 : j < 6) (hx : ∀ c : Nat, c < 6 → (bt (⟨#[40, 91, 41, 93, 97, 98]⟩ : ByteArray) (c : Int) = bt sy 0 ↔ (c : Int) = j)) (mN : Nat) (h1 : 1 ≤ mN) (h40 : mN ≤ 40) (w : World) : Calls Try.prog 19 #[.string sy, .int .i64 (mN : Int)] w fun e w' => ∃ vA vC vR vI : Value, e = .returned (.tuple #[.agg #[.int .i64 1, .int .i64 0, vA, vC, vR, vI], .int .i64 0]) ∧ Reads w' vA vC vR vI (LAs acc mN) (LCs (call (bt sy 0) mN) mN) (LRs 1 (back (bt sy 0) mN) mN) (LIs (inner (bt sy 0) mN) mN) ∧ Below w.heap.size w w' := by
 have hu27 := Try.underlying27
 have HIN := AZ.mk (show spec_l00In.f (mN : Int) 1 40 = some true by unfold spec_l00In.f; rw [if_pos (by omega), dT (by omega)])
 have HJ := AZ.mk hj
 have HJ6 := AZ.mk (show 0 ≤ j ∧ j < 6 from ⟨j0, j6⟩)
 have HX := AZ.mk hx
 have HM := AZ.mk (show 1 ≤ mN ∧ mN ≤ 40 from ⟨h1, h40⟩)
 have hs1 : (sy.size : Int) = 1 := by omega
 have ps := eq_true (show (0 : Int) < (sy.size : Int) by omega)
 have by_ : ∀ h : 0 < sy.size, ((sy[0]'h).toNat : Int) = bt sy 0 := fun h => bt_at sy 0 h
 have cj : decide (j < 0) = false := dF (by omega)
 have pj := eq_true j0
 have qj := eq_true (show j < ((6 : Nat) : Int) by omega)
 have qk := eq_true j6
 have z0 : ((mN : Int) == 0) = false := beq_eq_false_iff_ne.mpr (by omega)
 have z1 : ((mN : Int) != 0) = true := bne_iff_ne.mpr (by omega)
 have z2 := eq_false (show ¬ (mN : Int) = 0 by omega)
 have z3 := eq_false (show ¬ mN = 0 by omega)
 have HW := AZ.mk (Below.refl w.heap.size w)
 clear hj j0 j6 hx hsy h1 h40
 go_enter Try.func19, Try.ntmps19
 go_wp2_with (first | ((with_reducible refine Zb (N := 4) rfl ?_); refine Zc rfl (N := 4) rfl (cs := cZ) (t := 27) (by go_simp; try rfl) ?_; intro gZ hg WgZ hbx hb; have n9_ := AZ.mk hbx; have GZ := AZ.mk (show w.heap.size ≤ gZ by rw [hg]; exact pZ HW.out); clear hbx hg; replace HW := AZ.mk (pT HW.out hb); clear hb; have BZ := n9_; clear n9_) | ((with_reducible refine gate_callee (f := 59) rfl ?_); (try (refine gate_guard (by rfl) ?_; dsimp only)); refine Zs (some 15) rfl rfl Try.func59 (by kernel_rfl) rfl #[.int .u8 (bt sy 0)] rfl (by (try simp only [mA, mB, mC]); first | done | rfl) ?_; refine (spec_l01Symbol.calls ks (bt sy 0) j _ HJ.out).mono ?_; rintro e W15 ⟨rfl, hd⟩; refine ⟨_, rfl, ?_⟩; have hb := hd.below; replace HW := AZ.mk (pT HW.out hb); replace BZ := AZ.mk (bb_ BZ.out hb); clear hb hd) | ((with_reducible refine gate_callee (f := 50) rfl ?_); (try (refine gate_guard (by rfl) ?_; dsimp only)); refine Zs (some 20) rfl rfl Try.func50 (by kernel_rfl) rfl #[.int .i64 (mN : Int), .int .i64 1, .int .i64 40] rfl (by (try simp only [mA, mB, mC]); first | done | rfl) ?_; refine (spec_l00In.calls (mN : Int) 1 40 true _ HIN.out).mono ?_; rintro e W20 ⟨rfl, hd⟩; refine ⟨_, rfl, ?_⟩; have hb := hd.below; replace HW := AZ.mk (pT HW.out hb); replace BZ := AZ.mk (bb_ BZ.out hb); clear hb hd) | ((with_reducible refine Zb (N := 6) rfl ?_); refine Zc rfl (N := 6) rfl (cs := cZ) (t := 27) (by go_simp; try rfl) ?_; intro gC hg WgC hbx hb; have n9_ := AZ.mk hbx; have GC := AZ.mk (show w.heap.size ≤ gC by rw [hg]; exact pZ HW.out); have NE := AZ.mk (show gC ≠ gZ by rw [hg]; exact nG (Yb BZ.out)); clear hbx hg; replace HW := AZ.mk (pT HW.out hb); replace BZ := AZ.mk (bb_ BZ.out hb); clear hb; have BC := n9_; clear n9_) | ((with_reducible refine gate_ (.store 27 (.tmp 6) (.tmp 24)) rfl ?_); refine store27 rfl 6 24 rfl (g := gC) (old := cZ) (cs := Yc 1 0 Zx Zx Zx Zx) rfl rfl BC.out rfl rfl (cellsI_one _ _ (reads_nil0 w)) ?_; intro w3 hbx hB hfar; have HO := AZ.mk (show AllB w w3 gC gZ (Yc 1 0 Zx Zx Zx Zx) cZ Zx Zx Zx Zx Zx Zx Zx Zx (LAs acc 0) (LCs (call (bt sy 0) mN) 0) (LRs 1 (back (bt sy 0) mN) 0) (LIs (inner (bt sy 0) mN) 0) [] [] [] [] from ⟨hB _ _ HW.out GC.out, hbx, (hfar _ (Ne.symm NE.out)).trans BZ.out, ⟨GC.out, GZ.out, NE.out⟩, fun _ => 0, Kd.R_nil _ _ _ _ _, Kd.S_nil _ _ _ _ _, Kd.S_nil _ _ _ _ _, Kd.S_nil _ _ _ _ _, Kd.R_nil _ _ _ _ _, Kd.S_nil _ _ _ _ _, Kd.R_nil _ _ _ _ _, Kd.R_nil _ _ _ _ _⟩); clear HW BC BZ hbx hB hfar))
 go_loopg [7] (mN + 1) (fun kq v7 w' => ∃ (d : Nat) (vA vC vR vI : Value), v7 = .int .i64 (d : Int) ∧ AZ (kq + d = mN + 1) ∧ AZ (d ≤ mN) ∧ AZ (AllB w w' gC gZ (Yc 1 0 vA vC vR vI) cZ vA vC vR vI Zx Zx Zx Zx (LAs acc d) (LCs (call (bt sy 0) mN) d) (LRs 1 (back (bt sy 0) mN) d) (LIs (inner (bt sy 0) mN) d) [] [] [] []))
 case atStart => exact ⟨0, Zx, Zx, Zx, Zx, rfl, ⟨rfl⟩, ⟨Nat.zero_le _⟩, HO⟩
 case round =>
  clear HO
  obtain ⟨d, vA, vC, vR, vI, rfl, HQ, HD, HO⟩ := hrel
  by_cases hlt : d < mN
  ·have HL := AZ.mk hlt
   have c1 : decide ((d : Int) < (mN : Int)) = true := dT (by omega)
   have c2 : decide (d < mN) = true := dT hlt
   clear hlt
   obtain ⟨gk0, rfl⟩ : ∃ q, gk = q + 1 := ⟨gk - 1, by have := HQ.out; have := HL.out; omega⟩
   go_wp2_with (first | ((with_reducible refine gate_callee (f := 53) rfl ?_); (try (refine gate_guard (by rfl) ?_; dsimp only)); refine Zs (some 31) rfl rfl Try.func53 (by kernel_rfl) rfl #[.int .i64 (d : Int), .int .i64 6] rfl (by (try simp only [mA, mB, mC]); first | done | rfl) ?_; refine (spec_l02Same.calls 2000 (d : Int) 6 (List.replicate 6 (d : Int)) _ (by have h := same_f (d : Int) 5 (by decide); rw [bw' ((5 : Int) + 1) (by decide) (by decide)] at h; exact h)).mono ?_; rintro e W8 ⟨v8, rfl, hr, hb⟩; refine ⟨_, rfl, ?_⟩; obtain ⟨wR, gT, cT, csT, rfl, hA9, hb9, hg9, hbt, h6⟩ := six_at HO.out hr hb; have ALL := AZ.mk hA9; have HW := AZ.mk hb9; have GT := AZ.mk hg9; have BT := AZ.mk hbt; have H6 := AZ.mk h6; clear HO hb hr hbt h6 hA9 hb9 hg9))
   refine start_ (n := 10) (S := fun w' => True) (ds := []) (bz 10 0) (by kernel_rfl) rfl rfl trivial (fun hHeld => ?_)
   refine with_tabW scount.tab8 scount.bits8 (fun HT_ HW_ => ?_)
   have n0_ := AZ.mk (pD HW.out)
   have n1_ := AZ.mk (bd_ BT.out)
   clear HW BT
   have HW := n0_
   have BT := n1_
   clear n0_ n1_
   generalize World.drew _ = wD at HW BT hHeld ⊢
   refine pure_ (i := 0) (N := some 32) (v := ?_) (a' := ?_) (bz 10 1) rfl rfl (Zy HT_.out (by kernel_rfl)) (fun _ _ _ h => h) (Or.inl ⟨by rfl, ?_⟩) ?_ ?_
   rotate_left
   ·intro w'
    go_simp
    with_reducible rfl
   rotate_left
   ·simp only [Act.put, sA, sB, sC, i64_w, i32_w]
    rfl
   refine pure_ (i := 1) (N := some 33) (v := ?_) (a' := ?_) (bz 10 3) rfl rfl (Zy HT_.out (by kernel_rfl)) (fun _ _ _ h => h) (Or.inl ⟨by rfl, ?_⟩) ?_ ?_
   rotate_left
   ·intro w'
    go_simp
    with_reducible rfl
   rotate_left
   ·simp only [Act.put, sA, sB, sC, i64_w, i32_w]
    rfl
   refine pure_ (i := 4) (N := some 36) (v := ?_) (a' := ?_) (bz 10 19) rfl rfl (Zy HT_.out (by kernel_rfl)) (fun _ _ _ h => h) (Or.inl ⟨by rfl, ?_⟩) ?_ ?_
   rotate_left
   ·intro w'
    go_simp
    with_reducible rfl
   rotate_left
   ·simp only [Act.put, sA, sB, sC, i64_w, i32_w]
    rfl
   refine pure_ (i := 6) (N := some 38) (v := ?_) (a' := ?_) (bz 10 83) rfl rfl (Zy HT_.out (by kernel_rfl)) (fun _ _ _ h => h) (Or.inl ⟨by rfl, ?_⟩) ?_ ?_
   rotate_left
   ·intro w'
    go_simp
    with_reducible rfl
   rotate_left
   ·simp only [Act.put, sA, sB, sC, i64_w, i32_w]
    rfl
   refine inv_at [2, 3, 5, 7, 8, 9] (fun a0_ b a w' => a = Ya a0_ b [(2, 34, .int .u8 (bt sy 0)), (3, 35, .int .i64 j), (5, 37, .int .i64 (wrap64 ((d : Int) + 1))), (7, 39, .int .i64 (Int.tmod (wrap64 ((d : Int) + 1)) (mN : Int))), (8, 40, .pointer (some ⟨gT, j.toNat, none⟩))] ∧ (Below wR.heap.size wR w') ∧ (b 9 = false → w'.heap[gT]? = some (.cells csT 2 (0, 0))) ∧ (b 9 = true → w'.heap[gT]? = some (.cells (csT.setIfInBounds j.toNat (.int .i64 (Int.tmod (wrap64 ((d : Int) + 1)) (mN : Int)))) 2 (0, 0)))) HT_.out HW_.out (by kernel_rfl) (by kernel_rfl) ?_ ?_ ?_
   ·exact ⟨by simp only [Ya, Bool.false_eq_true, if_false], HW.out, fun _ => BT.out, fun h_ => absurd h_ (by decide)⟩
   ·skip
    clear BT HW
    refine Za ?_ ?_
    ·rintro b a w' ⟨ha, Q_HW, Q_BT, Q_BU⟩ hb_ hon hoff
     refine ⟨_, rfl, fun K hK => ?_⟩
     have e33 : a.tmps[33]? = some (.string sy) := xH_ ha rfl rfl
     replace ha := AZ.mk ha
     refine Zw (w1 := w') (v := .int .u8 (bt sy 0)) (by rfl) rfl (by go_simp; (try simp only [i64_w]); try rfl) ?_
     refine hK.out _ _ ⟨(xI_ ha.out 0 hb_ rfl rfl rfl), Q_HW, Q_BT, xA_ (hoff 9 rfl)⟩
    refine Za ?_ ?_
    ·rintro b a w' ⟨ha, Q_HW, Q_BT, Q_BU⟩ hb_ hon hoff
     refine ⟨_, rfl, fun K hK => ?_⟩
     have e34 := xG_ ha 0 rfl (hon 2 rfl) rfl rfl
     replace ha := AZ.mk ha
     have HW := AZ.mk Q_HW
     have BT := AZ.mk (Q_BT (hoff 9 rfl))
     refine goes_ Try.func59 (by kernel_rfl) rfl #[.int .u8 (bt sy 0)] (by rfl) rfl rfl (by simp only [mA, mB, mC, eval_of e34]) ?_
     refine (spec_l01Symbol.calls ks (bt sy 0) j _ HJ.out).mono ?_
     rintro e w_ ⟨rfl, hd⟩
     refine ⟨_, rfl, ?_⟩
     have hb := hd.below
     refine hK.out _ _ ⟨(xI_ ha.out 1 hb_ rfl rfl rfl), pT HW.out hb, fun _ => bb_ BT.out hb, xA_ (hoff 9 rfl)⟩
    refine Za ?_ ?_
    ·rintro b a w' ⟨ha, Q_HW, Q_BT, Q_BU⟩ hb_ hon hoff
     refine ⟨_, rfl, fun K hK => ?_⟩
     have e36 : a.tmps[36]? = some (.int .i64 (d : Int)) := xH_ ha rfl rfl
     replace ha := AZ.mk ha
     refine Zw (w1 := w') (v := .int .i64 (wrap64 ((d : Int) + 1))) (by rfl) rfl (by go_simp; (try simp only [i64_w]); try rfl) ?_
     refine hK.out _ _ ⟨(xI_ ha.out 2 hb_ rfl rfl rfl), Q_HW, Q_BT, xA_ (hoff 9 rfl)⟩
    refine Za ?_ ?_
    ·rintro b a w' ⟨ha, Q_HW, Q_BT, Q_BU⟩ hb_ hon hoff
     refine ⟨_, rfl, fun K hK => ?_⟩
     have e37 := xG_ ha 2 rfl (hon 5 rfl) rfl rfl
     have e38 : a.tmps[38]? = some (.int .i64 (mN : Int)) := xH_ ha rfl rfl
     replace ha := AZ.mk ha
     refine Zw (w1 := w') (v := .int .i64 (Int.tmod (wrap64 ((d : Int) + 1)) (mN : Int))) (by rfl) rfl (by go_simp; (try simp only [i64_w]); try rfl) ?_
     refine hK.out _ _ ⟨(xI_ ha.out 3 hb_ rfl rfl rfl), Q_HW, Q_BT, xA_ (hoff 9 rfl)⟩
    refine Za ?_ ?_
    ·rintro b a w' ⟨ha, Q_HW, Q_BT, Q_BU⟩ hb_ hon hoff
     refine ⟨_, rfl, fun K hK => ?_⟩
     have e32 : a.tmps[32]? = some (.slice (some ⟨gT, 0, none⟩) 6 cT) := xH_ ha rfl rfl
     have e35 := xG_ ha 1 rfl (hon 3 rfl) rfl rfl
     replace ha := AZ.mk ha
     refine Zw (w1 := w') (v := .pointer (some ⟨gT, j.toNat, none⟩)) (by rfl) rfl (by go_simp; (try simp only [i64_w]); try rfl) ?_
     refine hK.out _ _ ⟨(xI_ ha.out 4 hb_ rfl rfl rfl), Q_HW, Q_BT, xA_ (hoff 9 rfl)⟩
    refine Za ?_ ?_
    ·rintro b a w' ⟨ha, Q_HW, Q_BT, Q_BU⟩ hb_ hon hoff
     refine ⟨_, rfl, fun K hK => ?_⟩
     have e40 := xG_ ha 4 rfl (hon 8 rfl) rfl rfl
     have e39 := xG_ ha 3 rfl (hon 7 rfl) rfl rfl
     replace ha := AZ.mk ha
     have HW := AZ.mk Q_HW
     have BT := AZ.mk (Q_BT hb_)
     have hc_ : w'.cell? ⟨gT, j.toNat, none⟩ = some (.int .i64 (d : Int)) := (bc BT.out j.toNat).trans (H6.out _ (by have := HJ6.out; omega))
     have hf_ := bf BT.out j.toNat
     refine skip_ (w1 := ?_) (by rfl) rfl ?_ ?_
     rotate_left
     ·go_simp
      rfl
     refine hK.out _ _ ⟨(xJ_ ha.out rfl), pS HW.out GT.out, xD_ (Zz b 9), fun _ => blk_put BT.out j.toNat _ rfl⟩
    exact steps_nil
   ·rintro b a w' hall ⟨ha, Q_HW, Q_BT, Q_BU⟩
    clear BT HW
    have hb2_ := hall 2 (by kernel_rfl)
    have hb3_ := hall 3 (by kernel_rfl)
    have hb5_ := hall 5 (by kernel_rfl)
    have hb7_ := hall 7 (by kernel_rfl)
    have hb8_ := hall 8 (by kernel_rfl)
    have hb9_ := hall 9 (by kernel_rfl)
    subst ha
    simp only [Ya, hb2_, hb3_, hb5_, hb7_, hb8_, hb9_, if_true, Act.put, sA, sB, sC]
    have HW := AZ.mk Q_HW
    clear Q_HW
    clear Q_BT
    have BU := AZ.mk (Q_BU hb9_)
    clear Q_BU
    clear hall hb2_ hb3_ hb5_ hb7_ hb8_ hb9_
    clear hHeld HT_ HW_
    have HO := AZ.mk (All.below ALL.out HW.out)
    have N6 := AZ.mk (new_cells (bt sy 0) mN d j csT HJ6.out HX.out HL.out HM.out H6.out)
    clear ALL HW
    have hac : ((d : Int) == 0) = acc d := by unfold acc; rw [Bool.eq_iff_iff, beq_iff_eq, decide_eq_true_iff]
    have hac2 : (d == 0) = acc d := by unfold acc; rw [Bool.eq_iff_iff, beq_iff_eq, decide_eq_true_iff]; omega
    have hac3 : decide (d = 0) = acc d := by unfold acc; rw [Bool.eq_iff_iff, decide_eq_true_iff, decide_eq_true_iff]; omega
    go_wp2_with (first | ((with_reducible refine gate_callee (f := 52) rfl ?_); (try (refine gate_guard (by rfl) ?_; dsimp only)); refine Zs (some 44) rfl rfl Try.func52 (by kernel_rfl) rfl #[.pointer (some ⟨gC, 0, none⟩), .bool (acc d), .slice (some ⟨gT, 0, none⟩) 6 cT] rfl (by (try simp only [mA, mB, mC]); first | done | rfl) ?_; refine (plain_calls w _ gC gZ gT cZ _ cT 1 0 vA vC vR vI _ _ _ _ (acc d) (nx (bt sy 0) mN d 0) (nx (bt sy 0) mN d 1) (nx (bt sy 0) mN d 2) (nx (bt sy 0) mN d 3) (nx (bt sy 0) mN d 4) (nx (bt sy 0) mN d 5) HO.out BU.out (N6.out 0 (by decide)) (N6.out 1 (by decide)) (N6.out 2 (by decide)) (N6.out 3 (by decide)) (N6.out 4 (by decide)) (N6.out 5 (by decide)) (by decide) (by simp [LAs]; have := HL.out; have := HM.out; omega) (by simp [LCs]; have := HL.out; have := HM.out; omega) (by simp [LRs]; have := HL.out; have := HM.out; omega) (by simp [LIs]; have := HL.out; have := HM.out; omega)).mono ?_; rintro e W7 ⟨vA', vC', vR', vI', rfl, ho⟩; refine ⟨_, rfl, ?_⟩; clear HO BU; have HO := AZ.mk ho; clear ho))
    go_roundg gk0
    case measure => have := HQ.out; omega
    case rel => exact ⟨d + 1, vA', vC', vR', vI', by simp only [Value.int.injEq, true_and]; rw [bw' _ (by omega) (by have := HL.out; have := HM.out; omega)]; omega, ⟨by have := HQ.out; omega⟩, ⟨by have := HL.out; omega⟩, ⟨by rw [suc1, suc2, suc3, suc4]; exact HO.out⟩⟩
  ·have HE := AZ.mk (show d = mN by have := HD.out; omega)
   have c1 : decide ((d : Int) < (mN : Int)) = false := dF (by omega)
   have c2 : decide (d < mN) = false := dF hlt
   clear hlt
   obtain rfl := HE.out
   go_wp2_with (first | ((with_reducible refine gate_ (.load 27 (.tmp 6)) rfl ?_); refine load27 rfl 6 rfl (g := gC) rfl (All.boxC HO.out) rfl ?_) | ((with_reducible refine gate_ (.store 27 (.tmp 4) (.tmp 45)) rfl ?_); refine store27 rfl 4 45 rfl (g := gZ) (old := cZ) (cs := Yc 1 0 vA vC vR vI) rfl rfl (All.boxZ HO.out) rfl rfl (cellsI_one _ _ (Reads.own (own_of HO.out))) ?_; intro w9 hbx hB hfar))
   refine bodyPost_ret (results_ct rfl _ _ gZ 27 (Yc 1 0 vA vC vR vI) (0, 0) _ rfl hbx Try.underlying27 rfl (by kernel_rfl)) rfl ?_
   exact ⟨vA, vC, vR, vI, rfl, Reads.own (own_out HO.out hfar), hB _ _ (All.blw HO.out) HO.out.2.2.2.1.2.1⟩
theorem spec_bad1 (ks : Nat) (sy : ByteArray) (a : Int) (hn : sy.size ≠ 1) (w : World) : Calls Try.prog 19 #[.string sy, .int .i64 a] w fun e w' => ∃ vA vC vR vI : Value, e = .returned (.tuple #[.agg #[.int .i64 0, .int .i64 0, vA, vC, vR, vI], .int .i64 2]) ∧ Reads w' vA vC vR vI [] [] [] [] ∧ Below w.heap.size w w' := by
 have hu27 := Try.underlying27
 have hs1 : ((sy.size : Int) == 1) = false := beq_eq_false_iff_ne.mpr (by omega)
 have hs2 : ((sy.size : Int) != 1) = true := bne_iff_ne.mpr (by omega)
 have hs3 := eq_false (show ¬ (sy.size : Int) = 1 by omega)
 clear hn
 have HW := AZ.mk (Below.refl w.heap.size w)
 go_enter Try.func19, Try.ntmps19
 go_wp2_with (first | ((with_reducible refine Zb (N := 4) rfl ?_); refine Zc rfl (N := 4) rfl (cs := cZ) (t := 27) (by go_simp; try rfl) ?_; intro gZ hg WgZ hbx hb; have n9_ := AZ.mk hbx; have GZ := AZ.mk (show w.heap.size ≤ gZ by rw [hg]; exact pZ HW.out); clear hbx hg; replace HW := AZ.mk (pT HW.out hb); clear hb; have BZ := n9_; clear n9_) | ((with_reducible refine gate_ (.store 27 (.tmp 4) (.tmp 23)) rfl ?_); refine store27 rfl 4 23 rfl (g := gZ) (old := cZ) (cs := cZ) rfl rfl BZ.out rfl rfl (cells4_one 0 0 none none none none 0 0 0 0 0 0 0 0) ?_; intro w9 hbx hB hfar))
 refine bodyPost_ret (results_ct rfl _ _ gZ 27 cZ (0, 0) _ rfl hbx Try.underlying27 rfl (by kernel_rfl)) rfl ?_
 exact ⟨Zx, Zx, Zx, Zx, rfl, reads_nil0 _, hB _ _ HW.out GZ.out⟩
theorem spec_bad2 (ks : Nat) (sy : ByteArray) (a : Int) (hsy : sy.size = 1) (hj : spec_l01Symbol.f ks (bt sy 0) = some (-1)) (w : World) : Calls Try.prog 19 #[.string sy, .int .i64 a] w fun e w' => ∃ vA vC vR vI : Value, e = .returned (.tuple #[.agg #[.int .i64 0, .int .i64 0, vA, vC, vR, vI], .int .i64 2]) ∧ Reads w' vA vC vR vI [] [] [] [] ∧ Below w.heap.size w w' := by
 have hu27 := Try.underlying27
 have hs1 : (sy.size : Int) = 1 := by omega
 have ps := eq_true (show (0 : Int) < (sy.size : Int) by omega)
 have by_ : ∀ h : 0 < sy.size, ((sy[0]'h).toNat : Int) = bt sy 0 := fun h => bt_at sy 0 h
 have HJ := AZ.mk hj
 clear hj hsy
 have HW := AZ.mk (Below.refl w.heap.size w)
 go_enter Try.func19, Try.ntmps19
 go_wp2_with (first | ((with_reducible refine Zb (N := 4) rfl ?_); refine Zc rfl (N := 4) rfl (cs := cZ) (t := 27) (by go_simp; try rfl) ?_; intro gZ hg WgZ hbx hb; have n9_ := AZ.mk hbx; have GZ := AZ.mk (show w.heap.size ≤ gZ by rw [hg]; exact pZ HW.out); clear hbx hg; replace HW := AZ.mk (pT HW.out hb); clear hb; have BZ := n9_; clear n9_) | ((with_reducible refine gate_callee (f := 59) rfl ?_); (try (refine gate_guard (by rfl) ?_; dsimp only)); refine Zs (some 15) rfl rfl Try.func59 (by kernel_rfl) rfl #[.int .u8 (bt sy 0)] rfl (by (try simp only [mA, mB, mC]); first | done | rfl) ?_; refine (spec_l01Symbol.calls ks (bt sy 0) (-1) _ HJ.out).mono ?_; rintro e W15 ⟨rfl, hd⟩; refine ⟨_, rfl, ?_⟩; have hb := hd.below; replace HW := AZ.mk (pT HW.out hb); replace BZ := AZ.mk (bb_ BZ.out hb); clear hb hd) | ((with_reducible refine gate_ (.store 27 (.tmp 4) (.tmp 23)) rfl ?_); refine store27 rfl 4 23 rfl (g := gZ) (old := cZ) (cs := cZ) rfl rfl BZ.out rfl rfl (cells4_one 0 0 none none none none 0 0 0 0 0 0 0 0) ?_; intro w9 hbx hB hfar))
 refine bodyPost_ret (results_ct rfl _ _ gZ 27 cZ (0, 0) _ rfl hbx Try.underlying27 rfl (by kernel_rfl)) rfl ?_
 exact ⟨Zx, Zx, Zx, Zx, rfl, reads_nil0 _, hB _ _ HW.out GZ.out⟩
theorem spec_bad3 (ks : Nat) (sy : ByteArray) (a : Int) (hsy : sy.size = 1) (j : Int) (hj : spec_l01Symbol.f ks (bt sy 0) = some j) (j0 : 0 ≤ j) (hi : spec_l00In.f a 1 40 = some false) (w : World) : Calls Try.prog 19 #[.string sy, .int .i64 a] w fun e w' => ∃ vA vC vR vI : Value, e = .returned (.tuple #[.agg #[.int .i64 0, .int .i64 0, vA, vC, vR, vI], .int .i64 2]) ∧ Reads w' vA vC vR vI [] [] [] [] ∧ Below w.heap.size w w' := by
 have hu27 := Try.underlying27
 have hs1 : (sy.size : Int) = 1 := by omega
 have ps := eq_true (show (0 : Int) < (sy.size : Int) by omega)
 have by_ : ∀ h : 0 < sy.size, ((sy[0]'h).toNat : Int) = bt sy 0 := fun h => bt_at sy 0 h
 have HJ := AZ.mk hj
 have cj : decide (j < 0) = false := dF (by omega)
 have HIN := AZ.mk hi
 clear hj hsy hi j0
 have HW := AZ.mk (Below.refl w.heap.size w)
 go_enter Try.func19, Try.ntmps19
 go_wp2_with (first | ((with_reducible refine Zb (N := 4) rfl ?_); refine Zc rfl (N := 4) rfl (cs := cZ) (t := 27) (by go_simp; try rfl) ?_; intro gZ hg WgZ hbx hb; have n9_ := AZ.mk hbx; have GZ := AZ.mk (show w.heap.size ≤ gZ by rw [hg]; exact pZ HW.out); clear hbx hg; replace HW := AZ.mk (pT HW.out hb); clear hb; have BZ := n9_; clear n9_) | ((with_reducible refine gate_callee (f := 59) rfl ?_); (try (refine gate_guard (by rfl) ?_; dsimp only)); refine Zs (some 15) rfl rfl Try.func59 (by kernel_rfl) rfl #[.int .u8 (bt sy 0)] rfl (by (try simp only [mA, mB, mC]); first | done | rfl) ?_; refine (spec_l01Symbol.calls ks (bt sy 0) j _ HJ.out).mono ?_; rintro e W15 ⟨rfl, hd⟩; refine ⟨_, rfl, ?_⟩; have hb := hd.below; replace HW := AZ.mk (pT HW.out hb); replace BZ := AZ.mk (bb_ BZ.out hb); clear hb hd) | ((with_reducible refine gate_callee (f := 50) rfl ?_); (try (refine gate_guard (by rfl) ?_; dsimp only)); refine Zs (some 20) rfl rfl Try.func50 (by kernel_rfl) rfl #[.int .i64 a, .int .i64 1, .int .i64 40] rfl (by (try simp only [mA, mB, mC]); first | done | rfl) ?_; refine (spec_l00In.calls a 1 40 false _ HIN.out).mono ?_; rintro e W20 ⟨rfl, hd⟩; refine ⟨_, rfl, ?_⟩; have hb := hd.below; replace HW := AZ.mk (pT HW.out hb); replace BZ := AZ.mk (bb_ BZ.out hb); clear hb hd) | ((with_reducible refine gate_ (.store 27 (.tmp 4) (.tmp 23)) rfl ?_); refine store27 rfl 4 23 rfl (g := gZ) (old := cZ) (cs := cZ) rfl rfl BZ.out rfl rfl (cells4_one 0 0 none none none none 0 0 0 0 0 0 0 0) ?_; intro w9 hbx hB hfar))
 refine bodyPost_ret (results_ct rfl _ _ gZ 27 cZ (0, 0) _ rfl hbx Try.underlying27 rfl (by kernel_rfl)) rfl ?_
 exact ⟨Zx, Zx, Zx, Zx, rfl, reads_nil0 _, hB _ _ HW.out GZ.out⟩
end Count
end Go.Proofs.Ytepkfigcnnfoaaa.P
namespace Go.Proofs.Ytepkfigcnnfoaaa.Th

def g (l : List Int) (j : Nat) : Int := l.getD j 0

end Go.Proofs.Ytepkfigcnnfoaaa.Th
namespace Go.Proofs.Ytepkfigcnnfoaaa.Br
open Go.RowKit Go.Proofs.Ytepkfigcnnfoaaa.P Go.Proofs.YtepkfigcnnfoaaaW.PrintWords Go.Proofs.YtepkfigcnnfoaaaW.PrintLast Go.Proofs.YtepkfigcnnfoaaaW.PrintMore Go.Proofs.Ytepkfigcnnfoaaa.Th
theorem Ev.succ {α : Type} {g : Nat → Option α} {r : α} (h : Ev (fun k => g (k + 1)) r) : Ev g r := by
  obtain ⟨K, hK⟩ := h
  refine ⟨K + 1, fun k hk => ?_⟩
  obtain ⟨m, rfl⟩ : ∃ m, k = m + 1 := ⟨k - 1, by omega⟩
  exact hK m (by omega)
theorem Ev.done {α : Type} {r s : α} (h : r = s) : Ev (fun _ : Nat => some r) s := h ▸ Ev.now r
theorem w64 {x : Int} (h0 : -9223372036854775808 ≤ x) (h1 : x ≤ 9223372036854775807) : wrap64 x = x := by unfold wrap64; omega

/-- The number of a symbol, -1 if it is none. -/
def sym (b : Int) : Int := if b = 40 then 0 else if b = 91 then 1 else if b = 41 then 2 else if b = 93 then 3 else if b = 97 then 4 else if b = 98 then 5 else -1

def allFrom (f : Nat → Bool) : Nat → Nat → Bool
  | 0, _ => true
  | d + 1, i => f i && allFrom f d (i + 1)

/-- Is a text a word. -/
def okw (a : ByteArray) : Bool := allFrom (fun j => decide (0 ≤ sym (bt a j))) a.size 0 && decide ((a.size : Int) ≤ 60)

theorem bs0 : bt (⟨#[40, 91, 41, 93, 97, 98]⟩ : ByteArray) 0 = 40 := by decide
theorem bs1 : bt (⟨#[40, 91, 41, 93, 97, 98]⟩ : ByteArray) 1 = 91 := by decide
theorem bs2 : bt (⟨#[40, 91, 41, 93, 97, 98]⟩ : ByteArray) 2 = 41 := by decide
theorem bs3 : bt (⟨#[40, 91, 41, 93, 97, 98]⟩ : ByteArray) 3 = 93 := by decide
theorem bs4 : bt (⟨#[40, 91, 41, 93, 97, 98]⟩ : ByteArray) 4 = 97 := by decide
theorem bs5 : bt (⟨#[40, 91, 41, 93, 97, 98]⟩ : ByteArray) 5 = 98 := by decide

theorem symbol_ev (b : Int) : Ev (fun k => spec_l01Symbol.f k b) (sym b) := by
  unfold spec_l01Symbol.f sym
  have w1 : wrap64 (0 + 1) = 1 := by unfold wrap64; omega
  have w2 : wrap64 (1 + 1) = 2 := by unfold wrap64; omega
  have w3 : wrap64 (2 + 1) = 3 := by unfold wrap64; omega
  have w4 : wrap64 (3 + 1) = 4 := by unfold wrap64; omega
  have w5 : wrap64 (4 + 1) = 5 := by unfold wrap64; omega
  have w6 : wrap64 (5 + 1) = 6 := by unfold wrap64; omega
  refine Ev.succ ?_
  simp only [spec_l01Symbol.l0, bs0]
  by_cases h0 : b = 40
  · subst h0; exact Ev.done rfl
  rw [if_neg h0]
  simp only [if_neg (Ne.symm h0), w1]
  refine Ev.succ ?_
  simp only [spec_l01Symbol.l0, bs1]
  by_cases h0 : b = 91
  · subst h0; exact Ev.done rfl
  rw [if_neg h0]
  simp only [if_neg (Ne.symm h0), w2]
  refine Ev.succ ?_
  simp only [spec_l01Symbol.l0, bs2]
  by_cases h0 : b = 41
  · subst h0; exact Ev.done rfl
  rw [if_neg h0]
  simp only [if_neg (Ne.symm h0), w3]
  refine Ev.succ ?_
  simp only [spec_l01Symbol.l0, bs3]
  by_cases h0 : b = 93
  · subst h0; exact Ev.done rfl
  rw [if_neg h0]
  simp only [if_neg (Ne.symm h0), w4]
  refine Ev.succ ?_
  simp only [spec_l01Symbol.l0, bs4]
  by_cases h0 : b = 97
  · subst h0; exact Ev.done rfl
  rw [if_neg h0]
  simp only [if_neg (Ne.symm h0), w5]
  refine Ev.succ ?_
  simp only [spec_l01Symbol.l0, bs5]
  by_cases h0 : b = 98
  · subst h0; exact Ev.done rfl
  rw [if_neg h0]
  simp only [if_neg (Ne.symm h0), w6]
  refine Ev.succ ?_
  simp only [spec_l01Symbol.l0]
  exact Ev.done rfl

theorem index_eq {b : Int} (h0 : 0 ≤ b) (h1 : b ≤ 255) : strings_IndexByte.f (⟨#[40, 91, 41, 93, 97, 98]⟩ : ByteArray) b = some (sym b) := by
  obtain ⟨n, rfl⟩ := Int.eq_ofNat_of_zero_le h0
  have hn : n < 256 := by omega
  clear h0 h1
  unfold strings_IndexByte.f
  congr 1
  have key : ∀ n : Fin 256, Lib.indexByte (⟨#[40, 91, 41, 93, 97, 98]⟩ : ByteArray).data.toList ((n.val : Int).toNat.toUInt8) = sym (n.val : Int) := by decide +kernel
  exact key ⟨n, hn⟩

theorem valid_loop (a : ByteArray) (hn : a.size ≤ 1048576) : ∀ d i : Nat, i + d = a.size →
    Ev (fun k => impl_ValidWord.l0 k a a.size i) (allFrom (fun j => decide (0 ≤ sym (bt a j))) d i && decide ((a.size : Int) ≤ 60)) := by
  intro d
  induction d with
  | zero =>
    intro i hi
    refine Ev.succ ?_
    simp only [impl_ValidWord.l0, if_neg (show ¬ (i : Int) < (a.size : Int) by omega), allFrom, Bool.true_and]
    exact Ev.done rfl
  | succ d ih =>
    intro i hi
    refine Ev.succ ?_
    have hb := bt_range a i
    simp only [impl_ValidWord.l0, if_pos (show (i : Int) < (a.size : Int) by omega), if_pos (show (0 : Int) ≤ (i : Int) by omega), allFrom, index_eq hb.1 hb.2, Option.bind_some]
    rw [w64 (by omega) (by omega)]
    by_cases h : sym (bt a i) < 0
    · simp only [if_pos h]
      exact Ev.done (by simp; omega)
    · simp only [if_neg h]
      have := ih (i + 1) (by omega)
      simpa [show 0 ≤ sym (bt a i) by omega] using this

theorem valid_ev (a : ByteArray) (hn : a.size ≤ 1048576) : Ev (fun k => impl_ValidWord.f k a) (okw a) := valid_loop a hn a.size 0 (by omega)

end Go.Proofs.Ytepkfigcnnfoaaa.Br
namespace Go.Proofs.Ytepkfigcnnfoaaa.Br
open Go.RowKit Go.Proofs.Ytepkfigcnnfoaaa.P Go.Proofs.YtepkfigcnnfoaaaW.PrintWords Go.Proofs.YtepkfigcnnfoaaaW.PrintLast Go.Proofs.YtepkfigcnnfoaaaW.PrintMore Go.Proofs.Ytepkfigcnnfoaaa.Th
theorem down {P : Nat → Prop} (n : Nat) (h0 : P n) (h1 : ∀ i, i < n → P (i + 1) → P i) : ∀ i, i ≤ n → P i := by
  have key : ∀ d i, i + d = n → P i := by
    intro d
    induction d with
    | zero => intro i hi; obtain rfl : i = n := by omega
              exact h0
    | succ d ih => intro i hi; exact h1 i (by omega) (ih (i + 1) (by omega))
  intro i hi
  exact key (n - i) i (by omega)
theorem up1 (i : Nat) (h : i < 9223372036854775807) : wrap64 ((i : Int) + 1) = ((i + 1 : Nat) : Int) := by
  rw [w64 (by omega) (by omega)]; rfl
theorem ilt {i n : Nat} (h : i < n) : (i : Int) < (n : Int) := by omega
theorem inlt {n : Nat} : ¬ ((n : Int) < (n : Int)) := by omega
theorem i0 (i : Nat) : 0 ≤ (i : Int) := by omega
theorem getD_mem {α : Type} (l : List α) (i : Nat) (d : α) (h : i < l.length) : l.getD i d ∈ l := by
  rw [List.getD_eq_getElem?_getD, List.getElem?_eq_getElem h]
  exact List.getElem_mem h
def allN (n : Nat) (e : Nat → Bool) : Bool := (List.range n).all e
def eqv {α : Type} (e : α → α → Bool) (d : α) (x y : List α) : Bool := decide (x.length = y.length) && allN x.length (fun i => e (x.getD i d) (y.getD i d))
theorem allN_true {n : Nat} {e : Nat → Bool} (h : ∀ i, i < n → e i = true) : allN n e = true := by
  unfold allN
  rw [List.all_eq_true]
  intro i hi
  exact h i (List.mem_range.1 hi)
theorem eqv_self {α : Type} (e : α → α → Bool) (d : α) (x : List α) (h : ∀ a ∈ x, e a a = true) : eqv e d x x = true := by
  unfold eqv
  rw [dT rfl, Bool.true_and]
  exact allN_true (fun i hi => h _ (getD_mem x i d hi))
def allFromN (n : Nat) (e : Nat → Bool) : Nat → Bool
  | i => (List.range n).all fun j => decide (j < i) || e j
theorem allFromN_zero (n : Nat) (e : Nat → Bool) : allFromN n e 0 = allN n e := by
  unfold allFromN allN
  simp
theorem allFromN_end (n : Nat) (e : Nat → Bool) : allFromN n e n = true := by
  unfold allFromN
  rw [List.all_eq_true]
  intro j hj
  simp [List.mem_range.1 hj]
theorem allFromN_step (n : Nat) (e : Nat → Bool) (i : Nat) (hi : i < n) : allFromN n e i = (e i && allFromN n e (i + 1)) := by
  unfold allFromN
  apply Bool.eq_iff_iff.2
  rw [Bool.and_eq_true, List.all_eq_true, List.all_eq_true]
  constructor
  · intro H
    refine ⟨by simpa using H i (List.mem_range.2 hi), fun j hj => ?_⟩
    have := H j hj
    simp only [Bool.or_eq_true, decide_eq_true_eq] at this ⊢
    rcases this with h1 | h1
    · exact .inl (by omega)
    · exact .inr h1
  · rintro ⟨H0, H⟩ j hj
    have := H j hj
    simp only [Bool.or_eq_true, decide_eq_true_eq] at this ⊢
    by_cases h : j = i
    · subst h; exact .inr H0
    · rcases this with h1 | h1
      · exact .inl (by omega)
      · exact .inr h1
theorem allLoop (n : Nat) (L : Nat → Nat → Option Bool) (e : Nat → Bool) (hend : Ev (L n) true) (hs : ∀ i, i < n → ∀ r, Ev (L (i + 1)) r → Ev (L i) (e i && r)) : Ev (L 0) (allN n e) := by
  rw [← allFromN_zero]
  refine down (P := fun i => Ev (L i) (allFromN n e i)) n ?_ ?_ 0 (by omega)
  · show Ev (L n) (allFromN n e n)
    rw [allFromN_end]; exact hend
  · intro i hi ih
    show Ev (L i) (allFromN n e i)
    rw [allFromN_step n e i hi]
    exact hs i hi _ ih
theorem andEv {g : Nat → Option Bool} {a r : Bool} {f : Nat → Option Bool} (h : Ev g a) (k : Ev f r) : Ev (fun n => (g n).bind fun t => if t = true then f n else some false) (a && r) := by
  refine Ev.bind h ?_
  cases a with
  | true => simp only [if_true, Bool.true_and]; exact k
  | false => simp only [Bool.false_eq_true, if_false, Bool.false_and]; exact Ev.now _
theorem notEv {a r : Bool} {f : Nat → Option Bool} (k : Ev f r) : Ev (fun n => if a = true then some false else f n) (!a && r) := by
  cases a with
  | false => simp only [Bool.false_eq_true, if_false, Bool.not_false, Bool.true_and]; exact k
  | true => simp only [if_true, Bool.not_true, Bool.false_and]; exact Ev.now _
theorem eqEv {a b : Int} {r : Bool} {f : Nat → Option Bool} (k : Ev f r) : Ev (fun n => if a = b then f n else some false) (a == b && r) := by
  by_cases h : a = b
  · subst h; simp only [if_true, beq_self_eq_true, Bool.true_and]; exact k
  · simp only [if_neg h, beq_false_of_ne h, Bool.false_and]; exact Ev.now _
theorem lenEv {m n : Nat} {r : Bool} {f : Nat → Option Bool} (k : m = n → Ev f r) : Ev (fun q => if (m : Int) = (n : Int) then f q else some false) (decide (m = n) && r) := by
  by_cases h : m = n
  · simp only [if_pos (show (m : Int) = (n : Int) by omega), dT h, Bool.true_and]; exact k h
  · simp only [if_neg (show ¬ (m : Int) = (n : Int) by omega), dF h, Bool.false_and]; exact Ev.now _
end Go.Proofs.Ytepkfigcnnfoaaa.Br
namespace Go.Proofs.Ytepkfigcnnfoaaa.Br
open Go.RowKit Go.Proofs.Ytepkfigcnnfoaaa.P Go.Proofs.YtepkfigcnnfoaaaW.PrintWords Go.Proofs.YtepkfigcnnfoaaaW.PrintLast Go.Proofs.YtepkfigcnnfoaaaW.PrintMore Go.Proofs.Ytepkfigcnnfoaaa.Th
def eint (a b : Int) : Bool := a == b
def ebool (a b : Bool) : Bool := !(a != b)
def epush (x y : S47) : Bool := !(!(x.f0 == y.f0) || !(x.f1 == y.f1))
/-- How long a row is, and those inside. -/
def sm0 {α : Type} (l : List α) : Prop := l.length ≤ 1048576
def sm1 {α : Type} (l : List (List α)) : Prop := l.length ≤ 1048576 ∧ ∀ x ∈ l, sm0 x
def sm2 {α : Type} (l : List (List (List α))) : Prop := l.length ≤ 1048576 ∧ ∀ x ∈ l, sm1 x

theorem laws_eqPush_ev (x y : S47) : laws_eqPush.f x.f0 x.f1 y.f0 y.f1 = some (epush x y) := by
  unfold laws_eqPush.f epush
  by_cases h : x.f0 = y.f0
  · by_cases h2 : x.f1 = y.f1
    · simp [h, h2]
    · simp [h, h2]
  · simp [h]

theorem laws_eqInt64S_ev (x y : List Int) (hx : sm0 x) : Ev (fun k => laws_eqInt64S.f k x y) (eqv eint 0 x y) := by
  have hl : x.length ≤ 1048576 := hx
  unfold laws_eqInt64S.f eqv
  refine lenEv (fun h => allLoop x.length (fun i k => laws_eqInt64S.l0 k x y (i : Int)) _ ?_ ?_)
  · refine Ev.succ ?_
    simp only [laws_eqInt64S.l0, if_neg inlt]
    exact Ev.now _
  · intro i hi r hr
    refine Ev.succ ?_
    simp only [laws_eqInt64S.l0, if_pos (ilt hi), if_pos (i0 i), if_pos (ilt (show i < y.length by omega)), up1 i (by omega)]
    exact eqEv hr

theorem laws_eqBoolS_ev (x y : List Bool) (hx : sm0 x) : Ev (fun k => laws_eqBoolS.f k x y) (eqv ebool false x y) := by
  have hl : x.length ≤ 1048576 := hx
  unfold laws_eqBoolS.f eqv
  refine lenEv (fun h => allLoop x.length (fun i k => laws_eqBoolS.l0 k x y (i : Int)) _ ?_ ?_)
  · refine Ev.succ ?_
    simp only [laws_eqBoolS.l0, if_neg inlt]
    exact Ev.now _
  · intro i hi r hr
    refine Ev.succ ?_
    simp only [laws_eqBoolS.l0, if_pos (ilt hi), if_pos (i0 i), if_pos (ilt (show i < y.length by omega)), up1 i (by omega)]
    exact notEv hr

theorem laws_eqPushS_ev (x y : List S47) (hx : sm0 x) : Ev (fun k => laws_eqPushS.f k x y) (eqv epush z47 x y) := by
  have hl : x.length ≤ 1048576 := hx
  unfold laws_eqPushS.f eqv
  refine lenEv (fun h => allLoop x.length (fun i k => laws_eqPushS.l0 k x y (i : Int)) _ ?_ ?_)
  · refine Ev.succ ?_
    simp only [laws_eqPushS.l0, if_neg inlt]
    exact Ev.now _
  · intro i hi r hr
    refine Ev.succ ?_
    simp only [laws_eqPushS.l0, if_pos (ilt hi), if_pos (i0 i), if_pos (ilt (show i < y.length by omega)), up1 i (by omega)]
    exact andEv ⟨0, fun _ _ => laws_eqPush_ev (x.getD i z47) (y.getD i z47)⟩ hr

theorem laws_eqInt64SS_ev (x y : List (List Int)) (hx : sm1 x) : Ev (fun k => laws_eqInt64SS.f k x y) (eqv (eqv eint 0) ([] : (List Int)) x y) := by
  have hl : x.length ≤ 1048576 := hx.1
  unfold laws_eqInt64SS.f eqv
  refine lenEv (fun h => allLoop x.length (fun i k => laws_eqInt64SS.l0 k x y (i : Int)) _ ?_ ?_)
  · refine Ev.succ ?_
    simp only [laws_eqInt64SS.l0, if_neg inlt]
    exact Ev.now _
  · intro i hi r hr
    refine Ev.succ ?_
    simp only [laws_eqInt64SS.l0, if_pos (ilt hi), if_pos (i0 i), if_pos (ilt (show i < y.length by omega)), up1 i (by omega)]
    exact andEv (laws_eqInt64S_ev _ _ (hx.2 _ (getD_mem x i _ hi))) hr

theorem laws_eqInt64SSS_ev (x y : List (List (List Int))) (hx : sm2 x) : Ev (fun k => laws_eqInt64SSS.f k x y) (eqv (eqv (eqv eint 0) ([] : (List Int))) ([] : (List (List Int))) x y) := by
  have hl : x.length ≤ 1048576 := hx.1
  unfold laws_eqInt64SSS.f eqv
  refine lenEv (fun h => allLoop x.length (fun i k => laws_eqInt64SSS.l0 k x y (i : Int)) _ ?_ ?_)
  · refine Ev.succ ?_
    simp only [laws_eqInt64SSS.l0, if_neg inlt]
    exact Ev.now _
  · intro i hi r hr
    refine Ev.succ ?_
    simp only [laws_eqInt64SSS.l0, if_pos (ilt hi), if_pos (i0 i), if_pos (ilt (show i < y.length by omega)), up1 i (by omega)]
    exact andEv (laws_eqInt64SS_ev _ _ (hx.2 _ (getD_mem x i _ hi))) hr

theorem laws_eqPushSS_ev (x y : List (List S47)) (hx : sm1 x) : Ev (fun k => laws_eqPushSS.f k x y) (eqv (eqv epush z47) ([] : (List S47)) x y) := by
  have hl : x.length ≤ 1048576 := hx.1
  unfold laws_eqPushSS.f eqv
  refine lenEv (fun h => allLoop x.length (fun i k => laws_eqPushSS.l0 k x y (i : Int)) _ ?_ ?_)
  · refine Ev.succ ?_
    simp only [laws_eqPushSS.l0, if_neg inlt]
    exact Ev.now _
  · intro i hi r hr
    refine Ev.succ ?_
    simp only [laws_eqPushSS.l0, if_pos (ilt hi), if_pos (i0 i), if_pos (ilt (show i < y.length by omega)), up1 i (by omega)]
    exact andEv (laws_eqPushS_ev _ _ (hx.2 _ (getD_mem x i _ hi))) hr

end Go.Proofs.Ytepkfigcnnfoaaa.Br
namespace Go.Proofs.Ytepkfigcnnfoaaa.Br
open Go.RowKit Go.Proofs.Ytepkfigcnnfoaaa.P Go.Proofs.YtepkfigcnnfoaaaW.PrintWords Go.Proofs.YtepkfigcnnfoaaaW.PrintLast Go.Proofs.YtepkfigcnnfoaaaW.PrintMore Go.Proofs.Ytepkfigcnnfoaaa.Th
theorem eint_self (a : Int) : eint a a = true := by simp [eint]
theorem ebool_self (a : Bool) : ebool a a = true := by simp [ebool]
theorem epush_self (a : S47) : epush a a = true := by simp [epush]
theorem laws_eqChecker_ev (a b : Int) (l2 : List Bool) (l3 : List (List S47)) (l4 : List (List (List Int))) (l5 : List (List Int)) (h2 : sm0 l2) (h3 : sm1 l3) (h4 : sm2 l4) (h5 : sm1 l5) :
    Ev (fun k => laws_eqChecker.f k a b l2 l3 l4 l5 a b l2 l3 l4 l5) true := by
  unfold laws_eqChecker.f
  simp only [if_true]
  have e2 := laws_eqBoolS_ev l2 l2 h2
  rw [eqv_self _ _ _ (fun a _ => ebool_self a)] at e2
  have e3 := laws_eqPushSS_ev l3 l3 h3
  rw [eqv_self _ _ _ (fun a _ => eqv_self _ _ _ (fun a _ => epush_self a))] at e3
  have e4 := laws_eqInt64SSS_ev l4 l4 h4
  rw [eqv_self _ _ _ (fun a _ => eqv_self _ _ _ (fun a _ => eqv_self _ _ _ (fun a _ => eint_self a)))] at e4
  have e5 := laws_eqInt64SS_ev l5 l5 h5
  rw [eqv_self _ _ _ (fun a _ => eqv_self _ _ _ (fun a _ => eint_self a))] at e5
  refine Ev.bind e2 ?_
  simp only [if_true]
  refine Ev.bind e3 ?_
  simp only [if_true]
  refine Ev.bind e4 ?_
  simp only [if_true]
  refine Ev.bind e5 ?_
  simp only [if_true]
  exact Ev.now _
end Go.Proofs.Ytepkfigcnnfoaaa.Br
namespace Go.Proofs.Ytepkfigcnnfoaaa.Pure
open Go.RowKit Go.Proofs.Ytepkfigcnnfoaaa.P Go.Proofs.YtepkfigcnnfoaaaW.PrintWords Go.Proofs.YtepkfigcnnfoaaaW.PrintLast Go.Proofs.YtepkfigcnnfoaaaW.PrintMore Go.Proofs.Ytepkfigcnnfoaaa.Br Go.Proofs.Ytepkfigcnnfoaaa.Th

theorem eq_of (a b : Int) (l2 : List Bool) (l3 : List (List S47)) (l4 : List (List (List Int))) (l5 : List (List Int)) (h2 : sm0 l2) (h3 : sm1 l3) (h4 : sm2 l4) (h5 : sm1 l5) : ∃ n, ∀ K, n ≤ K → laws_eqChecker.f K a b l2 l3 l4 l5 a b l2 l3 l4 l5 = some true := by
  obtain ⟨n6, e6⟩ := laws_eqChecker_ev a b l2 _ l4 l5 h2 h3 h4 h5
  exact ⟨n6, fun K hK => e6 _ (by omega)⟩
theorem symf (x : Int) : ∃ n, ∀ K, n ≤ K → spec_l01Symbol.f K x = some (sym x) := by
  obtain ⟨n, e⟩ := symbol_ev x
  exact ⟨n, fun K hK => e K hK⟩
theorem vwf (sy : ByteArray) (h : sy.size = 1) : ∃ n, ∀ K, n ≤ K → impl_ValidWord.f K sy = some (decide (0 ≤ sym (bt sy 0))) := by
  obtain ⟨n, e⟩ := valid_ev sy (by omega)
  refine ⟨n, fun K hK => (e K hK).trans ?_⟩
  unfold okw
  rw [h]
  simp [allFrom]
theorem sym_at (x : Int) (h : 0 ≤ sym x) : sym x < 6 ∧ ∀ c : Nat, c < 6 → (bt (⟨#[40, 91, 41, 93, 97, 98]⟩ : ByteArray) (c : Int) = x ↔ (c : Int) = sym x) := by
  have hx : x = 40 ∨ x = 91 ∨ x = 41 ∨ x = 93 ∨ x = 97 ∨ x = 98 := by
    unfold sym at h
    (repeat' split at h) <;> omega
  have key : ∀ (k : Int), sym x = k → k < 6 → (∀ c : Fin 6, (bt (⟨#[40, 91, 41, 93, 97, 98]⟩ : ByteArray) (c.val : Int) = x ↔ (c.val : Int) = k)) → sym x < 6 ∧ ∀ c : Nat, c < 6 → (bt (⟨#[40, 91, 41, 93, 97, 98]⟩ : ByteArray) (c : Int) = x ↔ (c : Int) = sym x) := fun k e hk hc => by
    rw [e]
    exact ⟨hk, fun c h => hc ⟨c, h⟩⟩
  rcases hx with rfl | rfl | rfl | rfl | rfl | rfl
  · exact key 0 (by decide) (by decide) (by decide)
  · exact key 1 (by decide) (by decide) (by decide)
  · exact key 2 (by decide) (by decide) (by decide)
  · exact key 3 (by decide) (by decide) (by decide)
  · exact key 4 (by decide) (by decide) (by decide)
  · exact key 5 (by decide) (by decide) (by decide)
theorem sym_neg (x : Int) (h : ¬ 0 ≤ sym x) : sym x = -1 := by
  unfold sym at h ⊢
  (repeat' split at h) <;> (repeat' split) <;> omega
end Go.Proofs.Ytepkfigcnnfoaaa.Pure
namespace Go.Proofs.Ytepkfigcnnfoaaa.P
open Go.RowKit Go.Proofs.YtepkfigcnnfoaaaW.PrintWords Go.Proofs.YtepkfigcnnfoaaaW.PrintLast Go.Proofs.YtepkfigcnnfoaaaW.PrintMore Go.Proofs.Ytepkfigcnnfoaaa.Deep
theorem tot_bound {α : Type} (sz : α → Nat) (B : Nat) : ∀ xs : List α, (∀ x ∈ xs, sz x ≤ B) → tot sz xs ≤ xs.length * B
 | [], _ => by simp [tot]
 | x :: xs, h => by
  have h1 := h x (List.mem_cons_self ..)
  have h2 := tot_bound sz B xs (fun y hy => h y (List.mem_cons_of_mem _ hy))
  simp only [tot, List.length_cons, Nat.succ_mul]
  omega
open Go.Proofs.Ytepkfigcnnfoaaa.Br in
theorem ok_of (l2 : List Bool) (l3 : List (List S47)) (l4 : List (List (List Int))) (l5 : List (List Int)) (h2 : sm0 l2) (h3 : sm1 l3) (h4 : sm2 l4) (h5 : sm1 l5) : P.okC l2 l3 l4 l5 := by
 have b3 : tot szP l3 ≤ l3.length * 2097152 := tot_bound szP _ l3 (fun x hx => by have : x.length ≤ 1048576 := h3.2 x hx; unfold szP; omega)
 have q1 : ∀ x : List (List Int), sm1 x → szII x ≤ 1099511627776 := fun x hx => by
  have h := tot_bound szI 1048576 x (fun y hy => hx.2 y hy)
  have : x.length ≤ 1048576 := hx.1
  have h9 := Nat.mul_le_mul_right 1048576 this
  show tot szI x ≤ _
  omega
 have b4 : tot szII l4 ≤ l4.length * 1099511627776 := tot_bound szII _ l4 (fun x hx => q1 x (h4.2 x hx))
 have b5 := q1 l5 h5
 have n2 : l2.length ≤ 1048576 := h2
 have n3 : l3.length ≤ 1048576 := h3.1
 have n4 : l4.length ≤ 1048576 := h4.1
 have m3 := Nat.mul_le_mul_right 2097152 n3
 have m4 := Nat.mul_le_mul_right 1099511627776 n4
 exact ⟨n2, n3, fun x hx => h3.2 x hx, n4, fun x hx => ⟨(h4.2 x hx).1, fun y hy => (h4.2 x hx).2 y hy⟩, ⟨h5.1, fun y hy => h5.2 y hy⟩, by omega⟩
theorem ok_nil : okC [] [] [] [] := ⟨by decide, by decide, fun _ h => (by cases h), by decide, fun _ h => (by cases h), ⟨by decide, fun _ h => (by cases h)⟩, by decide⟩
namespace Count
theorem walk1 (sy : ByteArray) (a gm gs gk : Int) (gA' : List Bool) (gC' : List (List S47)) (gR' : List (List (List Int))) (gI' : List (List Int)) (kq : Nat) (hlen : ¬ 1048576 < sy.size)
  (hs : ∀ W, Calls Try.prog 19 #[.string sy, .int .i64 a] W fun e W' => ∃ vA vC vR vI : Value, e = .returned (.tuple #[.agg #[.int .i64 gm, .int .i64 gs, vA, vC, vR, vI], .int .i64 gk]) ∧ Reads W' vA vC vR vI gA' gC' gR' gI' ∧ Below W.heap.size W W')
  (hi : ∀ W, Calls Try.prog 20 #[.string sy, .int .i64 a] W fun e W' => ∃ vA vC vR vI : Value, e = .returned (.tuple #[.agg #[.int .i64 gm, .int .i64 gs, vA, vC, vR, vI], .int .i64 gk]) ∧ OwnC W' W.heap.size vA vC vR vI gA' gC' gR' gI' ∧ Below W.heap.size W W')
  (okg : okC gA' gC' gR' gI') (eqg : laws_eqChecker.f kq gm gs gA' gC' gR' gI' gm gs gA' gC' gR' gI' = some true) (w : World) : Calls Try.prog 6 #[.string sy, .int .i64 a] w fun e w' => e = .returned (.bool true) ∧ Below w.heap.size w w' := by
 have hu27 := Try.underlying27
 have HB := AZ.mk (Below.refl w.heap.size w)
 obtain ⟨q, hq⟩ : ∃ q, q = numE (gA') (gC') (gR') (gI') := ⟨_, rfl⟩
 have HQ := AZ.mk hq
 have c1 : decide (q < 0) = false := dF (by rw [hq]; exact Int.not_lt.2 numE_pos)
 clear hq
 have HS := AZ.mk hs
 have HI := AZ.mk hi
 have OKG := AZ.mk okg
 have EQG := AZ.mk eqg
 have l1 := eq_false (show ¬ (sy.size : Int) > 1048576 by omega)
 have l2 := eq_false (show ¬ (1048576 : Int) < (sy.size : Int) by omega)
 have l3 := eq_false hlen
 clear hs hi okg eqg hlen
 go_enter Try.func6, Try.ntmps6
 go_wp2_with (first | ((with_reducible refine gate_callee (f := 19) rfl ?_); refine Zs (some 19) rfl rfl Try.func19 (by kernel_rfl) rfl #[.string sy, .int .i64 a] rfl (by (try simp only [mA, mB, mC]); first | done | rfl) ?_; refine (HS.out _).mono ?_; rintro e W1 ⟨wA, wC, wR, wI, rfl, hr, hb⟩; refine ⟨_, rfl, ?_⟩; have RW := AZ.mk hr; have L1 := AZ.mk (Below.refl W1.heap.size W1); clear hr; replace HB := AZ.mk (pT HB.out hb); clear hb) | ((with_reducible refine Zb (N := 5) rfl ?_); refine Zc rfl (N := 5) rfl (cs := cZ) (t := 27) (by go_simp; try rfl) ?_; intro b1 hg Wb1 hbx hb; have B1 := AZ.mk hbx; have GHBb1 := AZ.mk (show _ ≤ b1 by rw [hg]; exact pZ HB.out); have GL1b1 := AZ.mk (show _ ≤ b1 by rw [hg]; exact pZ L1.out); replace HB := AZ.mk (pT HB.out hb); replace L1 := AZ.mk (pT L1.out hb); clear hb hbx hg) | ((with_reducible refine gate_ (.store 27 (.tmp 5) (.tmp 20)) rfl ?_); refine store27 rfl 5 20 rfl (g := b1) (old := cZ) (cs := Yc (gm) (gs) wA wC wR wI) rfl rfl B1.out rfl rfl (cellsI_one _ _ (RW.out)) ?_; intro Xb1 hbx hB hfar; clear B1; have B1 := AZ.mk hbx; replace HB := AZ.mk (hB _ _ HB.out GHBb1.out); replace L1 := AZ.mk (hB _ _ L1.out GL1b1.out); clear hbx hB hfar) | ((with_reducible refine gate_callee (f := 20) rfl ?_); refine Zs (some 25) rfl rfl Try.func20 (by kernel_rfl) rfl #[.string sy, .int .i64 a] rfl (by (try simp only [mA, mB, mC]); first | done | rfl) ?_; refine (HI.out _).mono ?_; rintro e W4 ⟨gA, gC, gR, gI, rfl, hO, hb⟩; refine ⟨_, rfl, ?_⟩; have OG := AZ.mk hO; have K1 := AZ.mk HB.out; have K2 := AZ.mk L1.out; have K3 := AZ.mk B1.out; have L3 := AZ.mk hb; have L4 := AZ.mk (Below.refl W4.heap.size W4); clear hO; replace HB := AZ.mk (pT HB.out hb); replace L1 := AZ.mk (pT L1.out hb); replace B1 := AZ.mk (bb_ B1.out hb); clear hb) | ((with_reducible refine Zb (N := 7) rfl ?_); refine Zc rfl (N := 7) rfl (cs := cZ) (t := 27) (by go_simp; try rfl) ?_; intro b2 hg Wb2 hbx hb; have B2 := AZ.mk hbx; have GHBb2 := AZ.mk (show _ ≤ b2 by rw [hg]; exact pZ HB.out); have GL1b2 := AZ.mk (show _ ≤ b2 by rw [hg]; exact pZ L1.out); have GL3b2 := AZ.mk (show _ ≤ b2 by rw [hg]; exact pZ L3.out); have GL4b2 := AZ.mk (show _ ≤ b2 by rw [hg]; exact pZ L4.out); have NEB1b2 := AZ.mk (show b1 ≠ b2 by rw [hg]; exact nL (Yb B1.out)); replace HB := AZ.mk (pT HB.out hb); replace L1 := AZ.mk (pT L1.out hb); replace L3 := AZ.mk (pT L3.out hb); replace L4 := AZ.mk (pT L4.out hb); replace B1 := AZ.mk (bb_ B1.out hb); clear hb hbx hg) | ((with_reducible refine gate_ (.store 27 (.tmp 7) (.tmp 26)) rfl ?_); refine store27 rfl 7 26 rfl (g := b2) (old := cZ) (cs := Yc (gm) (gs) gA gC gR gI) rfl rfl B2.out rfl rfl (cellsI_one _ _ (Reads.own OG.out)) ?_; intro Xb2 hbx hB hfar; clear B2; have B2 := AZ.mk hbx; replace HB := AZ.mk (hB _ _ HB.out GHBb2.out); replace L1 := AZ.mk (hB _ _ L1.out GL1b2.out); replace L3 := AZ.mk (hB _ _ L3.out GL3b2.out); replace L4 := AZ.mk (hB _ _ L4.out GL4b2.out); replace B1 := AZ.mk ((hfar _ NEB1b2.out).trans B1.out); clear hbx hB hfar) | ((with_reducible refine Zb (N := 28) rfl ?_); refine load27 rfl 7 rfl (g := b2) rfl B2.out rfl ?_) | ((with_reducible refine Zb (N := 29) rfl ?_); refine load27 rfl 5 rfl (g := b1) rfl B1.out rfl ?_) | ((with_reducible refine gate_callee (f := 12) rfl ?_); refine Zs (some 30) rfl rfl Try.func12 (by kernel_rfl) rfl #[.agg (Yc (gm) (gs) gA gC gR gI), .agg (Yc (gm) (gs) wA wC wR wI)] rfl (by (try simp only [mA, mB, mC]); first | done | rfl) ?_; refine (eqC_calls kq (gm) (gs) (gm) (gs) true (Reads.own (own_below OG.out L4.out)) (RW.out.below L1.out) (EQG.out)).mono ?_; rintro e W5 ⟨rfl, hb⟩; refine ⟨_, rfl, ?_⟩; replace HB := AZ.mk (pT HB.out hb); replace L1 := AZ.mk (pT L1.out hb); replace L3 := AZ.mk (pT L3.out hb); replace L4 := AZ.mk (pT L4.out hb); replace B1 := AZ.mk (bb_ B1.out hb); replace B2 := AZ.mk (bb_ B2.out hb); clear hb) | ((with_reducible refine Zb (N := 37) rfl ?_); refine load27 rfl 7 rfl (g := b2) rfl B2.out rfl ?_) | ((with_reducible refine gate_callee (f := 13) rfl ?_); refine Zs (some 39) rfl rfl Try.func13 (by kernel_rfl) rfl #[.agg (Yc (gm) (gs) gA gC gR gI), .int .i64 1] rfl (by (try simp only [mA, mB, mC]); first | done | rfl) ?_; refine (markChecker_calls _ _ (gm) (gs) gA gC gR gI (gA') (gC') (gR') (gI') (OKG.out) L3.out (own_below OG.out L4.out) b2 _ B2.out).mono ?_; rintro e W8 ⟨rfl, hO, hb, hg⟩; rw [← HQ.out]; refine ⟨_, rfl, ?_⟩; have OM := AZ.mk hO; have L8 := AZ.mk (Below.refl W8.heap.size W8); clear HB L1 B1 B2 L4 L3; have HB := AZ.mk (pT K1.out hb); have L1 := AZ.mk (pT K2.out hb); have B1 := AZ.mk (bb_ K3.out hb); have B2 := AZ.mk hg; clear hb hg hO) | ((with_reducible refine Zb (N := 40) rfl ?_); refine load27 rfl 7 rfl (g := b2) rfl B2.out rfl ?_) | ((with_reducible refine gate_callee (f := 14) rfl ?_); refine Zs (some 42) rfl rfl Try.func14 (by kernel_rfl) rfl #[.agg (Yc (gm) (gs) gA gC gR gI), .int .i64 1] rfl (by (try simp only [mA, mB, mC]); first | done | rfl) ?_; refine (heldC_calls (gm) (gs) (OKG.out) (Reads.own (own_below OM.out L8.out))).mono ?_; rintro e W9 ⟨rfl, hb⟩; rw [← HQ.out]; refine ⟨_, rfl, ?_⟩; replace HB := AZ.mk (pT HB.out hb); replace L1 := AZ.mk (pT L1.out hb); replace L8 := AZ.mk (pT L8.out hb); replace B1 := AZ.mk (bb_ B1.out hb); replace B2 := AZ.mk (bb_ B2.out hb); clear hb) | ((with_reducible refine gate_callee (f := 20) rfl ?_); refine Zs (some 51) rfl rfl Try.func20 (by kernel_rfl) rfl #[.string sy, .int .i64 a] rfl (by (try simp only [mA, mB, mC]); first | done | rfl) ?_; refine (HI.out _).mono ?_; rintro e W10 ⟨hA, hC, hR, hI, rfl, hO, hb⟩; refine ⟨_, rfl, ?_⟩; have OH := AZ.mk hO; have L10 := AZ.mk (Below.refl W10.heap.size W10); clear hO; replace HB := AZ.mk (pT HB.out hb); replace L1 := AZ.mk (pT L1.out hb); replace L8 := AZ.mk (pT L8.out hb); replace B1 := AZ.mk (bb_ B1.out hb); replace B2 := AZ.mk (bb_ B2.out hb); clear hb) | ((with_reducible refine Zb (N := 11) rfl ?_); refine Zc rfl (N := 11) rfl (cs := cZ) (t := 27) (by go_simp; try rfl) ?_; intro b5 hg Wb5 hbx hb; have B5 := AZ.mk hbx; have GHBb5 := AZ.mk (show _ ≤ b5 by rw [hg]; exact pZ HB.out); have GL1b5 := AZ.mk (show _ ≤ b5 by rw [hg]; exact pZ L1.out); have GL8b5 := AZ.mk (show _ ≤ b5 by rw [hg]; exact pZ L8.out); have GL10b5 := AZ.mk (show _ ≤ b5 by rw [hg]; exact pZ L10.out); have NEB1b5 := AZ.mk (show b1 ≠ b5 by rw [hg]; exact nL (Yb B1.out)); have NEB2b5 := AZ.mk (show b2 ≠ b5 by rw [hg]; exact nL (Yb B2.out)); replace HB := AZ.mk (pT HB.out hb); replace L1 := AZ.mk (pT L1.out hb); replace L8 := AZ.mk (pT L8.out hb); replace L10 := AZ.mk (pT L10.out hb); replace B1 := AZ.mk (bb_ B1.out hb); replace B2 := AZ.mk (bb_ B2.out hb); clear hb hbx hg) | ((with_reducible refine gate_ (.store 27 (.tmp 11) (.tmp 52)) rfl ?_); refine store27 rfl 11 52 rfl (g := b5) (old := cZ) (cs := Yc (gm) (gs) hA hC hR hI) rfl rfl B5.out rfl rfl (cellsI_one _ _ (Reads.own OH.out)) ?_; intro Xb5 hbx hB hfar; clear B5; have B5 := AZ.mk hbx; replace HB := AZ.mk (hB _ _ HB.out GHBb5.out); replace L1 := AZ.mk (hB _ _ L1.out GL1b5.out); replace L8 := AZ.mk (hB _ _ L8.out GL8b5.out); replace L10 := AZ.mk (hB _ _ L10.out GL10b5.out); replace B1 := AZ.mk ((hfar _ NEB1b5.out).trans B1.out); replace B2 := AZ.mk ((hfar _ NEB2b5.out).trans B2.out); clear hbx hB hfar) | ((with_reducible refine Zb (N := 54) rfl ?_); refine load27 rfl 11 rfl (g := b5) rfl B5.out rfl ?_) | ((with_reducible refine Zb (N := 55) rfl ?_); refine load27 rfl 5 rfl (g := b1) rfl B1.out rfl ?_) | ((with_reducible refine gate_callee (f := 12) rfl ?_); refine Zs (some 56) rfl rfl Try.func12 (by kernel_rfl) rfl #[.agg (Yc (gm) (gs) hA hC hR hI), .agg (Yc (gm) (gs) wA wC wR wI)] rfl (by (try simp only [mA, mB, mC]); first | done | rfl) ?_; refine (eqC_calls kq (gm) (gs) (gm) (gs) true (Reads.own (own_below OH.out L10.out)) (RW.out.below L1.out) (EQG.out)).mono ?_; rintro e W15 ⟨rfl, hb⟩; refine ⟨_, rfl, ?_⟩; replace HB := AZ.mk (pT HB.out hb); replace L1 := AZ.mk (pT L1.out hb); replace L8 := AZ.mk (pT L8.out hb); replace L10 := AZ.mk (pT L10.out hb); replace B1 := AZ.mk (bb_ B1.out hb); replace B2 := AZ.mk (bb_ B2.out hb); replace B5 := AZ.mk (bb_ B5.out hb); clear hb) | ((with_reducible refine Zb (N := 63) rfl ?_); refine load27 rfl 7 rfl (g := b2) rfl B2.out rfl ?_) | ((with_reducible refine gate_callee (f := 14) rfl ?_); refine Zs (some 65) rfl rfl Try.func14 (by kernel_rfl) rfl #[.agg (Yc (gm) (gs) gA gC gR gI), .int .i64 1] rfl (by (try simp only [mA, mB, mC]); first | done | rfl) ?_; refine (heldC_calls (gm) (gs) (OKG.out) (Reads.own (own_below OM.out L8.out))).mono ?_; rintro e W19 ⟨rfl, hb⟩; rw [← HQ.out]; refine ⟨_, rfl, ?_⟩; replace HB := AZ.mk (pT HB.out hb); replace L1 := AZ.mk (pT L1.out hb); replace L8 := AZ.mk (pT L8.out hb); replace B1 := AZ.mk (bb_ B1.out hb); replace B2 := AZ.mk (bb_ B2.out hb); clear hb))
 go_ret
 exact ⟨rfl, HB.out⟩
theorem walk0 (sy : ByteArray) (a : Int) (h : 1048576 < sy.size) (w : World) : Calls Try.prog 6 #[.string sy, .int .i64 a] w fun e w' => e = .returned (.bool true) ∧ Below w.heap.size w w' := by
 have l1 := eq_true (show (sy.size : Int) > 1048576 by omega)
 have l2 := eq_true (show (1048576 : Int) < (sy.size : Int) by omega)
 have l3 := eq_true h
 clear h
 go_enter Try.func6, Try.ntmps6
 go_wp2
 go_ret
 exact ⟨rfl, Below.refl _ _⟩
open Go.Proofs.Ytepkfigcnnfoaaa.Br in
theorem small (x m : Int) (mN : Nat) (h : mN ≤ 40) : sm0 (LAs acc mN) ∧ sm1 (LCs (call x m) mN) ∧ sm2 (LRs 1 (back x m) mN) ∧ sm1 (LIs (inner x m) mN) := by
 have e : ∀ {α : Type} (f : Nat → α), ((List.range mN).map f).length ≤ 1048576 := fun f => by rw [List.length_map, List.length_range]; omega
 refine ⟨e _, ⟨e _, fun y hy => ?_⟩, ⟨e _, fun y hy => ?_⟩, ⟨e _, fun y hy => ?_⟩⟩
 ·obtain ⟨i, -, rfl⟩ := List.mem_map.1 hy
  show ([_, _] : List S47).length ≤ 1048576
  simp only [List.length_cons, List.length_nil]; omega
 ·obtain ⟨i, -, rfl⟩ := List.mem_map.1 hy
  refine ⟨?_, fun z hz => ?_⟩
  ·simp only [List.length_cons, List.length_nil]; omega
  ·simp only [List.mem_cons, List.not_mem_nil, or_false] at hz
   unfold sm0 rowL at *
   rcases hz with rfl | rfl <;> (rw [List.length_map, List.length_range]; omega)
 ·obtain ⟨i, -, rfl⟩ := List.mem_map.1 hy
  unfold sm0
  simp only [List.length_cons, List.length_nil]; omega
open Go.Proofs.Ytepkfigcnnfoaaa.Br in
theorem walk (sy : ByteArray) (a : Int) (w : World) : Calls Try.prog 6 #[.string sy, .int .i64 a] w fun e w' => e = .returned (.bool true) ∧ Below w.heap.size w w' := by
 by_cases hl : 1048576 < sy.size
 ·exact walk0 sy a hl w
 obtain ⟨n3, f3⟩ := Pure.eq_of 0 0 [] [] [] [] (by unfold sm0; decide) ⟨by decide, fun _ h => (by cases h)⟩ ⟨by decide, fun _ h => (by cases h)⟩ ⟨by decide, fun _ h => (by cases h)⟩
 by_cases hsy : sy.size = 1
 case neg => exact walk1 sy a 0 0 2 [] [] [] [] n3 hl (fun W => spec_bad1 0 sy a hsy W) (fun W => impl_bad1 0 sy a hsy W) ok_nil (f3 n3 (Nat.le_refl _)) w
 obtain ⟨n1, f1⟩ := Pure.symf (bt sy 0)
 obtain ⟨n2, f2⟩ := Pure.vwf sy hsy
 have e1 := f1 n1 (Nat.le_refl _)
 have e2 := f2 n2 (Nat.le_refl _)
 by_cases hj : 0 ≤ sym (bt sy 0)
 case neg =>
  rw [Pure.sym_neg _ hj] at e1
  rw [dF hj] at e2
  exact walk1 sy a 0 0 2 [] [] [] [] n3 hl (fun W => spec_bad2 n1 sy a hsy e1 W) (fun W => impl_bad2 n2 sy a hsy e2 W) ok_nil (f3 n3 (Nat.le_refl _)) w
 rw [dT hj] at e2
 by_cases ha : 1 ≤ a ∧ a ≤ 40
 case neg =>
  have hs : spec_l00In.f a 1 40 = some false := by
   unfold spec_l00In.f
   by_cases h : a ≥ 1
   ·rw [if_pos h, dF (by omega)]
   ·rw [if_neg h]
  have hi : impl_within.f a 1 40 = some false := by
   unfold impl_within.f
   by_cases h : a ≥ 1
   ·rw [if_pos h, dF (by omega)]
   ·rw [if_neg h]
  exact walk1 sy a 0 0 2 [] [] [] [] n3 hl (fun W => spec_bad3 n1 sy a hsy _ e1 hj hs W) (fun W => impl_bad3 n2 sy a hsy e2 hi W) ok_nil (f3 n3 (Nat.le_refl _)) w
 obtain ⟨mN, rfl⟩ : ∃ m : Nat, a = (m : Int) := ⟨a.toNat, by omega⟩
 obtain ⟨s2, s3, s4, s5⟩ := small (bt sy 0) mN mN (by omega)
 obtain ⟨n4, f4⟩ := Pure.eq_of 1 0 _ _ _ _ s2 s3 s4 s5
 have hx := Pure.sym_at (bt sy 0) hj
 exact walk1 sy mN 1 0 0 (LAs acc mN) (LCs (call (bt sy 0) mN) mN) (LRs 1 (back (bt sy 0) mN) mN) (LIs (inner (bt sy 0) mN) mN) n4 hl (fun W => spec_ok n1 sy hsy _ e1 hj hx.1 hx.2 mN (by omega) (by omega) W) (fun W => impl_ok n2 sy hsy e2 mN (by omega) (by omega) W) (ok_of _ _ _ _ s2 s3 s4 s5) (f4 n4 (Nat.le_refl _)) w
end Count
end Go.Proofs.Ytepkfigcnnfoaaa.P
