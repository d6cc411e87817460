/- Texts that this law leans on, several in one; written by programs of these sessions (print, wip/deep, gather.py). -/
import Derived.Test.YtepkfigcnnfoaaaOa2
namespace Go.Proofs.Ytepkfigcnnfoaaa.P
open Go.RowKit Go.Proofs.YtepkfigcnnfoaaaW.PrintWords Go.Proofs.YtepkfigcnnfoaaaW.PrintLast Go.Proofs.YtepkfigcnnfoaaaW.PrintMore
attribute [local go_sem] max2_int min2_int max_two min_two max_three min_three max_four min_four
set_option linter.unusedVariables false
set_option linter.unusedSimpArgs false
mutual
def impl_ValidChecker.j0 : Nat → Int → Bool → Int → Int → List Bool → List (List (S47)) → List (List (List Int)) → List (List Int) → Option (Bool)
 | 0, _, _, _, _, _, _, _, _ => none
 | k + 1, x3, x47, x474000, x474001, x474002, x474003, x474004, x474005 => if x47 = true then (some false) else (impl_ValidChecker.l0 k x3 0 x474000 x474001 x474002 x474003 x474004 x474005)
def impl_ValidChecker.l0 : Nat → Int → Int → Int → Int → List Bool → List (List (S47)) → List (List (List Int)) → List (List Int) → Option (Bool)
 | 0, _, _, _, _, _, _, _, _ => none
 | k + 1, x49, x50, x474000, x474001, x474002, x474003, x474004, x474005 => if x50 < x49 then (if 0 ≤ x50 then (if x50 < (x474003.length : Int) then (if ((rd_L3 x474003 x50).length : Int) = 2 then (if x50 < (x474004.length : Int) then (if ((rd_L5 x474004 x50).length : Int) = 2 then (if x50 < (x474005.length : Int) then ((impl_ValidChecker_1_c.f k (rd_L4 x474005 x50) 2 x474000 x474001 x474002 x474003 x474004 x474005).bind fun t484 => (impl_ValidChecker.j2 k x50 x49 x50 (!t484) x474000 x474001 x474002 x474003 x474004 x474005)) else (none)) else (impl_ValidChecker.j2 k x50 x49 x50 true x474000 x474001 x474002 x474003 x474004 x474005)) else (none)) else (impl_ValidChecker.j2 k x50 x49 x50 true x474000 x474001 x474002 x474003 x474004 x474005)) else (none)) else (none)) else (some true)
def impl_ValidChecker.j2 : Nat → Int → Int → Int → Bool → Int → Int → List Bool → List (List (S47)) → List (List (List Int)) → List (List Int) → Option (Bool)
 | 0, _, _, _, _, _, _, _, _, _, _ => none
 | k + 1, x5, x49, x50, x78, x474000, x474001, x474002, x474003, x474004, x474005 => if x78 = true then (some false) else (impl_ValidChecker.l1 k x5 x49 x50 0 x474000 x474001 x474002 x474003 x474004 x474005)
def impl_ValidChecker.l1 : Nat → Int → Int → Int → Int → Int → Int → List Bool → List (List (S47)) → List (List (List Int)) → List (List Int) → Option (Bool)
 | 0, _, _, _, _, _, _, _, _, _, _ => none
 | k + 1, x5, x49, x50, x79, x474000, x474001, x474002, x474003, x474004, x474005 => if x79 < 2 then (if 0 ≤ x5 then (if x5 < (x474003.length : Int) then (if 0 ≤ x79 then (if x79 < ((rd_L3 x474003 x5).length : Int) then ((impl_Checker_isState.f x474000 x474001 x474002 x474003 x474004 x474005 ((rd_T47 (rd_L3 x474003 x5) x79).f0)).bind fun t488 => (if t488 = true then ((impl_Checker_isMark.f x474000 x474001 x474002 x474003 x474004 x474005 ((rd_T47 (rd_L3 x474003 x5) x79).f1)).bind fun t489 => (if t489 = true then (if x5 < (x474004.length : Int) then (if x79 < ((rd_L5 x474004 x5).length : Int) then ((impl_ValidChecker_1_c.f k (rd_L4 (rd_L5 x474004 x5) x79) (wrap64 (x474000 + 1)) x474000 x474001 x474002 x474003 x474004 x474005).bind fun t492 => (if t492 = true then (impl_ValidChecker.l1 k x5 x49 x50 (wrap64 (x79 + 1)) x474000 x474001 x474002 x474003 x474004 x474005) else (some false))) else (none)) else (none)) else (some false))) else (some false))) else (none)) else (none)) else (none)) else (none)) else (impl_ValidChecker.l0 k x49 (wrap64 (x50 + 1)) x474000 x474001 x474002 x474003 x474004 x474005)
end
def impl_ValidChecker.f (k : Nat) (a0_0 : Int) (a0_1 : Int) (l0_2 : List Bool) (l0_3 : List (List (S47))) (l0_4 : List (List (List Int))) (l0_5 : List (List Int)) : Option (Bool) := (impl_size_bool.f l0_2).bind fun t474 => ((impl_within.f t474 1 40).bind fun t475 => (if t475 = true then ((impl_within.f a0_0 1 80).bind fun t476 => (if t476 = true then ((impl_Checker_isState.f a0_0 a0_1 l0_2 l0_3 l0_4 l0_5 a0_1).bind fun t477 => (if t477 = true then ((impl_size_Limpl_Push.f l0_3).bind fun t478 => (if t478 = t474 then ((impl_size_LLint64.f l0_4).bind fun t479 => (if t479 = t474 then ((impl_size_Lint64.f l0_5).bind fun t480 => (impl_ValidChecker.j0 k t474 (t480 != t474) a0_0 a0_1 l0_2 l0_3 l0_4 l0_5)) else (impl_ValidChecker.j0 k t474 true a0_0 a0_1 l0_2 l0_3 l0_4 l0_5))) else (impl_ValidChecker.j0 k t474 true a0_0 a0_1 l0_2 l0_3 l0_4 l0_5))) else (impl_ValidChecker.j0 k t474 true a0_0 a0_1 l0_2 l0_3 l0_4 l0_5))) else (impl_ValidChecker.j0 k t474 true a0_0 a0_1 l0_2 l0_3 l0_4 l0_5))) else (impl_ValidChecker.j0 k t474 true a0_0 a0_1 l0_2 l0_3 l0_4 l0_5)))
def impl_ValidChecker.T14 : Bool × List (List Nat × List Nat) := (true, [([], []), ([], []), ([1], [1]), ([0, 2], [0, 2]), ([3], [3]), ([4, 3], [4]), ([5], [5]), ([5], [5]), ([7, 5], [5, 7]), ([6, 8, 5, 5], [5, 6, 8]), ([9, 5], [5, 9]), ([5, 10], [5, 10]), ([11, 9], [11]), ([12], [12]), ([12], [12]), ([14, 12], [12, 14]), ([12], [12]), ([15, 16, 12], [12, 15, 16]), ([17, 12], [12, 17]), ([12], [12]), ([18, 19, 12], [12, 18, 19]), ([20, 12], [12, 20]), ([12], [12]), ([22, 12], [12, 22]), ([23, 12], [12, 23]), ([13, 21, 24, 12, 12], [12, 13, 21, 24]), ([25, 12], [12, 25]), ([12, 26], [12, 26])])
def impl_ValidChecker.B14 : List Nat := [0, 0, 2, 7, 15, 31, 63, 63, 191, 511, 1023, 2047, 4095, 8191, 8191, 24575, 8191, 122879, 253951, 8191, 1040383, 2088959, 8191, 4202495, 12591103, 33554431, 67108863, 134217727]
theorem impl_ValidChecker.tab14 : rtab .any (opsOf Try.f76 14) = impl_ValidChecker.T14 := by kernel_rfl
theorem impl_ValidChecker.bits14 : waitsOk impl_ValidChecker.T14.2 impl_ValidChecker.B14 = true := by kernel_rfl
def impl_ValidChecker.cz0 : List Nat := [1, 400, 402]
def impl_ValidChecker.cz1 : List Nat := [4, 5, 7, 406, 408]
def impl_ValidChecker.cz2 : List Nat := [10, 11, 12, 13, 14, 16, 19, 22, 415, 17, 418, 20, 421, 423, 24]
def impl_ValidChecker.cz3 : List Nat := [26, 27]
def impl_ValidChecker.cz4 : List Nat := [10, 11, 12, 213, 214, 215, 216, 217, 218, 219, 220, 221, 222, 223, 224, 225, 226, 27]
def impl_ValidChecker.cz5 : List Nat := [4, 5, 206, 207, 208, 209, 210, 11, 12, 213, 214, 215, 216, 217, 218, 219, 220, 221, 222, 223, 224, 225, 226, 27]
set_option maxHeartbeats 8000000 in
set_option maxRecDepth 100000 in
theorem impl_ValidChecker.calls (k : Nat) (a0_0 : Int) (a0_1 : Int) (A0_2 : Option Addr) (c0_2 : Nat) (l0_2 : List Bool) (A0_3 : Option Addr) (c0_3 : Nat) (l0_3 : List (List (S47))) (A0_4 : Option Addr) (c0_4 : Nat) (l0_4 : List (List (List Int))) (A0_5 : Option Addr) (c0_5 : Nat) (l0_5 : List (List Int)) (r : Bool) (w : World) (hr0_2 : Kd.C Kd.bool w A0_2 l0_2.length l0_2) (hc0_2 : l0_2.length ≤ c0_2) (hr0_3 : Kd.C (Kd.slice 47 k47) w A0_3 l0_3.length l0_3) (hc0_3 : l0_3.length ≤ c0_3) (hr0_4 : Kd.C (Kd.slice 49 (Kd.slice 2 (Kd.int .i64))) w A0_4 l0_4.length l0_4) (hc0_4 : l0_4.length ≤ c0_4) (hr0_5 : Kd.C (Kd.slice 2 (Kd.int .i64)) w A0_5 l0_5.length l0_5) (hc0_5 : l0_5.length ≤ c0_5) (h : impl_ValidChecker.f k a0_0 a0_1 l0_2 l0_3 l0_4 l0_5 = some r) :
  Calls Try.prog 76 #[.agg #[.int .i64 a0_0, .int .i64 a0_1, .slice A0_2 l0_2.length c0_2, .slice A0_3 l0_3.length c0_3, .slice A0_4 l0_4.length c0_4, .slice A0_5 l0_5.length c0_5]] w fun e w' => e = .returned (.bool r) ∧ Below w.heap.size w w' := by
 have hu27 := Try.underlying27
 have hu47 := Try.underlying47
 have HR0_2 := AZ.mk hr0_2
 have HC0_2 := AZ.mk hc0_2
 clear hr0_2 hc0_2
 have HR0_3 := AZ.mk hr0_3
 have HC0_3 := AZ.mk hc0_3
 clear hr0_3 hc0_3
 have HR0_4 := AZ.mk hr0_4
 have HC0_4 := AZ.mk hc0_4
 clear hr0_4 hc0_4
 have HR0_5 := AZ.mk hr0_5
 have HC0_5 := AZ.mk hc0_5
 clear hr0_5 hc0_5
 have HB := AZ.mk (Below.refl w.heap.size w)
 have H : ((impl_size_bool.f l0_2).bind fun t474 => ((impl_within.f t474 1 40).bind fun t475 => (if t475 = true then ((impl_within.f a0_0 1 80).bind fun t476 => (if t476 = true then ((impl_Checker_isState.f a0_0 a0_1 l0_2 l0_3 l0_4 l0_5 a0_1).bind fun t477 => (if t477 = true then ((impl_size_Limpl_Push.f l0_3).bind fun t478 => (if t478 = t474 then ((impl_size_LLint64.f l0_4).bind fun t479 => (if t479 = t474 then ((impl_size_Lint64.f l0_5).bind fun t480 => (impl_ValidChecker.j0 k t474 (t480 != t474) a0_0 a0_1 l0_2 l0_3 l0_4 l0_5)) else (impl_ValidChecker.j0 k t474 true a0_0 a0_1 l0_2 l0_3 l0_4 l0_5))) else (impl_ValidChecker.j0 k t474 true a0_0 a0_1 l0_2 l0_3 l0_4 l0_5))) else (impl_ValidChecker.j0 k t474 true a0_0 a0_1 l0_2 l0_3 l0_4 l0_5))) else (impl_ValidChecker.j0 k t474 true a0_0 a0_1 l0_2 l0_3 l0_4 l0_5))) else (impl_ValidChecker.j0 k t474 true a0_0 a0_1 l0_2 l0_3 l0_4 l0_5)))) = some r := h
 clear h
 replace H := Option.bind_eq_some_iff.mp H
 obtain ⟨t474, A20, H⟩ := H
 replace H : ((impl_within.f t474 1 40).bind fun t475 => (if t475 = true then ((impl_within.f a0_0 1 80).bind fun t476 => (if t476 = true then ((impl_Checker_isState.f a0_0 a0_1 l0_2 l0_3 l0_4 l0_5 a0_1).bind fun t477 => (if t477 = true then ((impl_size_Limpl_Push.f l0_3).bind fun t478 => (if t478 = t474 then ((impl_size_LLint64.f l0_4).bind fun t479 => (if t479 = t474 then ((impl_size_Lint64.f l0_5).bind fun t480 => (impl_ValidChecker.j0 k t474 (t480 != t474) a0_0 a0_1 l0_2 l0_3 l0_4 l0_5)) else (impl_ValidChecker.j0 k t474 true a0_0 a0_1 l0_2 l0_3 l0_4 l0_5))) else (impl_ValidChecker.j0 k t474 true a0_0 a0_1 l0_2 l0_3 l0_4 l0_5))) else (impl_ValidChecker.j0 k t474 true a0_0 a0_1 l0_2 l0_3 l0_4 l0_5))) else (impl_ValidChecker.j0 k t474 true a0_0 a0_1 l0_2 l0_3 l0_4 l0_5))) else (impl_ValidChecker.j0 k t474 true a0_0 a0_1 l0_2 l0_3 l0_4 l0_5))) = some r := H
 have A2 := AZ.mk A20
 clear A20
 have HC3 := AZ.mk H
 clear H
 go_enter Try.func76, Try.ntmps76
 go_upto_region 2 with (first | ((with_reducible refine gate_dst (N := 1) rfl ?_); (try (refine gate_guard (by rfl) ?_; dsimp only)); refine box_event ?hg (N := 1) ?hd (cs := #[.int .i64 a0_0, .int .i64 a0_1, .slice A0_2 l0_2.length c0_2, .slice A0_3 l0_3.length c0_3, .slice A0_4 l0_4.length c0_4, .slice A0_5 l0_5.length c0_5]) (t := 27) ?hr ?_; (case hd => rfl); (case hg => rfl); (case hr => first | (go_simp; done) | (go_simp; rfl)); intro gb473 hg w4 hbox hb; have n0_ := AZ.mk (pT (by repeat (first | (with_reducible first | exact HB.out | apply pA | apply pN | apply pD) | exact HB.out)) hb); have n1_ := AZ.mk (hbox); have n2_ := AZ.mk ((by rw [hg]; exact (pZ (by repeat (first | (with_reducible first | exact HB.out | apply pA | apply pN | apply pD) | exact HB.out))) : w.heap.size ≤ gb473)); have n3_ := AZ.mk ((by rw [hg]; exact (pZ (by repeat (first | (with_reducible first | exact HB.out | apply pA | apply pN | apply pD) | exact HB.out))) : w.heap.size ≤ gb473)); clear HB; have HB := n0_; have BK473 := n1_; have GW473 := n2_; have GE473 := n3_; clear n0_ n1_ n2_ n3_; clear hb hbox hg; obtain ⟨hcz5_0, hcz5_1, hcz5_2, hcz5_3, hcz5_4, hcz5_5⟩ := c6 BK473.out; obtain ⟨hfz5_0, hfz5_1, hfz5_2, hfz5_3, hfz5_4, hfz5_5⟩ := f6 BK473.out) | ((with_reducible refine gate_callee (f := 97) rfl ?_); refine goesL_ (some 10) rfl rfl Try.func97 (by kernel_rfl) rfl #[.slice A0_2 l0_2.length c0_2] rfl (by (try simp only [List.map_toArray, List.map_cons, List.map_nil]); first | done | rfl | (simp only [List.length_drop, List.length_take]; rfl)) ?_; (with_reducible refine (impl_size_bool.calls _ _ l0_2 t474 _ ?side1 ?side2 A2.out).mono ?_); (case side1 => repeat (first | exact (Kd.C_below HR0_2.out HB.out) | (with_reducible refine Kd.C_alloc ?_ _) | (with_reducible refine Kd.C_drewN ?_ _) | (with_reducible refine Kd.C_drew ?_))); (case side2 => exact HC0_2.out); rintro e w' ⟨rfl, ⟨nd, rfl⟩⟩; refine ⟨_, rfl, ?_⟩))
 (try simp only [Act.put, sA, sB, sC])
 go_cut [47] (fun v47 wc => ∃ (kq : Nat) (x47_2 : Bool), v47 = .bool x47_2 ∧ AZ (impl_ValidChecker.j0 kq t474 x47_2 a0_0 a0_1 l0_2 l0_3 l0_4 l0_5 = some r) ∧ AZ (kq ≤ k) ∧ AZ (wc.heap[gb473]? = some (.cells #[.int .i64 a0_0, .int .i64 a0_1, (.slice A0_2 l0_2.length c0_2), (.slice A0_3 l0_3.length c0_3), (.slice A0_4 l0_4.length c0_4), (.slice A0_5 l0_5.length c0_5)] 27 (0, 0))) ∧ AZ (Below w.heap.size w wc))
 case first =>
  have H := HC3.out
  clear HC3
  replace H := Option.bind_eq_some_iff.mp H
  obtain ⟨t475, A60, H⟩ := H
  replace H : (if t475 = true then ((impl_within.f a0_0 1 80).bind fun t476 => (if t476 = true then ((impl_Checker_isState.f a0_0 a0_1 l0_2 l0_3 l0_4 l0_5 a0_1).bind fun t477 => (if t477 = true then ((impl_size_Limpl_Push.f l0_3).bind fun t478 => (if t478 = t474 then ((impl_size_LLint64.f l0_4).bind fun t479 => (if t479 = t474 then ((impl_size_Lint64.f l0_5).bind fun t480 => (impl_ValidChecker.j0 k t474 (t480 != t474) a0_0 a0_1 l0_2 l0_3 l0_4 l0_5)) else (impl_ValidChecker.j0 k t474 true a0_0 a0_1 l0_2 l0_3 l0_4 l0_5))) else (impl_ValidChecker.j0 k t474 true a0_0 a0_1 l0_2 l0_3 l0_4 l0_5))) else (impl_ValidChecker.j0 k t474 true a0_0 a0_1 l0_2 l0_3 l0_4 l0_5))) else (impl_ValidChecker.j0 k t474 true a0_0 a0_1 l0_2 l0_3 l0_4 l0_5))) else (impl_ValidChecker.j0 k t474 true a0_0 a0_1 l0_2 l0_3 l0_4 l0_5)) = some r := H
  have A6 := AZ.mk A60
  clear A60
  by_cases c7 : t475 = true
  rotate_left
  ·replace c7 := Bool.eq_false_iff.mpr c7
   subst c7
   have H1 : (impl_ValidChecker.j0 k t474 true a0_0 a0_1 l0_2 l0_3 l0_4 l0_5) = some r := by rw [if_neg (show ¬ (false = true) by decide)] at H; exact H
   clear H
   have H := H1
   clear H1
   have H' := AZ.mk H
   clear H
   go_wp2_with (first | ((with_reducible refine gate_callee (f := 54) rfl ?_); refine goesL_ (some 12) rfl rfl Try.func54 (by kernel_rfl) rfl #[.int .i64 t474, .int .i64 1, .int .i64 40] rfl (by (try simp only [List.map_toArray, List.map_cons, List.map_nil]); first | done | rfl | (simp only [List.length_drop, List.length_take]; rfl)) ?_; (with_reducible refine (impl_within.calls t474 1 40 false _ A6.out).mono ?_); rintro e w' ⟨rfl, ⟨nd, rfl⟩⟩; refine ⟨_, rfl, ?_⟩))
   go_meet
   case rel => exact ⟨_, (true), (by first | rfl | (simp; done) | (simp [*]; done)), H', ⟨by first | omega | exact Nat.le_refl _⟩, ⟨by (with_reducible repeat (first | refine bn_ ?_ _ | refine bd_ ?_ | refine ba_ ?_ _)); exact BK473.out⟩, ⟨by repeat (first | (with_reducible first | exact HB.out | apply pA | apply pN | apply pD | refine pS ?_ GE473.out) | exact HB.out)⟩⟩
  subst c7
  have H1 : ((impl_within.f a0_0 1 80).bind fun t476 => (if t476 = true then ((impl_Checker_isState.f a0_0 a0_1 l0_2 l0_3 l0_4 l0_5 a0_1).bind fun t477 => (if t477 = true then ((impl_size_Limpl_Push.f l0_3).bind fun t478 => (if t478 = t474 then ((impl_size_LLint64.f l0_4).bind fun t479 => (if t479 = t474 then ((impl_size_Lint64.f l0_5).bind fun t480 => (impl_ValidChecker.j0 k t474 (t480 != t474) a0_0 a0_1 l0_2 l0_3 l0_4 l0_5)) else (impl_ValidChecker.j0 k t474 true a0_0 a0_1 l0_2 l0_3 l0_4 l0_5))) else (impl_ValidChecker.j0 k t474 true a0_0 a0_1 l0_2 l0_3 l0_4 l0_5))) else (impl_ValidChecker.j0 k t474 true a0_0 a0_1 l0_2 l0_3 l0_4 l0_5))) else (impl_ValidChecker.j0 k t474 true a0_0 a0_1 l0_2 l0_3 l0_4 l0_5))) = some r := by rw [if_pos rfl] at H; exact H
  clear H
  have H := H1
  clear H1
  replace H := Option.bind_eq_some_iff.mp H
  obtain ⟨t476, A80, H⟩ := H
  replace H : (if t476 = true then ((impl_Checker_isState.f a0_0 a0_1 l0_2 l0_3 l0_4 l0_5 a0_1).bind fun t477 => (if t477 = true then ((impl_size_Limpl_Push.f l0_3).bind fun t478 => (if t478 = t474 then ((impl_size_LLint64.f l0_4).bind fun t479 => (if t479 = t474 then ((impl_size_Lint64.f l0_5).bind fun t480 => (impl_ValidChecker.j0 k t474 (t480 != t474) a0_0 a0_1 l0_2 l0_3 l0_4 l0_5)) else (impl_ValidChecker.j0 k t474 true a0_0 a0_1 l0_2 l0_3 l0_4 l0_5))) else (impl_ValidChecker.j0 k t474 true a0_0 a0_1 l0_2 l0_3 l0_4 l0_5))) else (impl_ValidChecker.j0 k t474 true a0_0 a0_1 l0_2 l0_3 l0_4 l0_5))) else (impl_ValidChecker.j0 k t474 true a0_0 a0_1 l0_2 l0_3 l0_4 l0_5)) = some r := H
  have A8 := AZ.mk A80
  clear A80
  by_cases c9 : t476 = true
  rotate_left
  ·replace c9 := Bool.eq_false_iff.mpr c9
   subst c9
   have H1 : (impl_ValidChecker.j0 k t474 true a0_0 a0_1 l0_2 l0_3 l0_4 l0_5) = some r := by rw [if_neg (show ¬ (false = true) by decide)] at H; exact H
   clear H
   have H := H1
   clear H1
   have H' := AZ.mk H
   clear H
   go_wp2_with (first | ((with_reducible refine gate_callee (f := 54) rfl ?_); refine goesL_ (some 12) rfl rfl Try.func54 (by kernel_rfl) rfl #[.int .i64 t474, .int .i64 1, .int .i64 40] rfl (by (try simp only [List.map_toArray, List.map_cons, List.map_nil]); first | done | rfl | (simp only [List.length_drop, List.length_take]; rfl)) ?_; (with_reducible refine (impl_within.calls t474 1 40 true _ A6.out).mono ?_); rintro e w' ⟨rfl, ⟨nd, rfl⟩⟩; refine ⟨_, rfl, ?_⟩; obtain ⟨hcz28_0, hcz28_1, hcz28_2, hcz28_3, hcz28_4, hcz28_5⟩ := c6 BK473.out; obtain ⟨hfz28_0, hfz28_1, hfz28_2, hfz28_3, hfz28_4, hfz28_5⟩ := f6 BK473.out) | (go_at_call 54; (with_reducible refine (impl_within.calls a0_0 1 80 false _ A8.out).mono ?_); rintro e w' ⟨rfl, ⟨nd, rfl⟩⟩))
   go_meet
   case rel => exact ⟨_, (true), (by first | rfl | (simp; done) | (simp [*]; done)), H', ⟨by first | omega | exact Nat.le_refl _⟩, ⟨by (with_reducible repeat (first | refine bn_ ?_ _ | refine bd_ ?_ | refine ba_ ?_ _)); exact BK473.out⟩, ⟨by repeat (first | (with_reducible first | exact HB.out | apply pA | apply pN | apply pD | refine pS ?_ GE473.out) | exact HB.out)⟩⟩
  subst c9
  have H1 : ((impl_Checker_isState.f a0_0 a0_1 l0_2 l0_3 l0_4 l0_5 a0_1).bind fun t477 => (if t477 = true then ((impl_size_Limpl_Push.f l0_3).bind fun t478 => (if t478 = t474 then ((impl_size_LLint64.f l0_4).bind fun t479 => (if t479 = t474 then ((impl_size_Lint64.f l0_5).bind fun t480 => (impl_ValidChecker.j0 k t474 (t480 != t474) a0_0 a0_1 l0_2 l0_3 l0_4 l0_5)) else (impl_ValidChecker.j0 k t474 true a0_0 a0_1 l0_2 l0_3 l0_4 l0_5))) else (impl_ValidChecker.j0 k t474 true a0_0 a0_1 l0_2 l0_3 l0_4 l0_5))) else (impl_ValidChecker.j0 k t474 true a0_0 a0_1 l0_2 l0_3 l0_4 l0_5))) = some r := by rw [if_pos rfl] at H; exact H
  clear H
  have H := H1
  clear H1
  replace H := Option.bind_eq_some_iff.mp H
  obtain ⟨t477, A100, H⟩ := H
  replace H : (if t477 = true then ((impl_size_Limpl_Push.f l0_3).bind fun t478 => (if t478 = t474 then ((impl_size_LLint64.f l0_4).bind fun t479 => (if t479 = t474 then ((impl_size_Lint64.f l0_5).bind fun t480 => (impl_ValidChecker.j0 k t474 (t480 != t474) a0_0 a0_1 l0_2 l0_3 l0_4 l0_5)) else (impl_ValidChecker.j0 k t474 true a0_0 a0_1 l0_2 l0_3 l0_4 l0_5))) else (impl_ValidChecker.j0 k t474 true a0_0 a0_1 l0_2 l0_3 l0_4 l0_5))) else (impl_ValidChecker.j0 k t474 true a0_0 a0_1 l0_2 l0_3 l0_4 l0_5)) = some r := H
  have A10 := AZ.mk A100
  clear A100
  by_cases c11 : t477 = true
  rotate_left
  ·replace c11 := Bool.eq_false_iff.mpr c11
   subst c11
   have H1 : (impl_ValidChecker.j0 k t474 true a0_0 a0_1 l0_2 l0_3 l0_4 l0_5) = some r := by rw [if_neg (show ¬ (false = true) by decide)] at H; exact H
   clear H
   have H := H1
   clear H1
   have H' := AZ.mk H
   clear H
   go_wp2_with (first | ((with_reducible refine gate_callee (f := 54) rfl ?_); refine goesL_ (some 12) rfl rfl Try.func54 (by kernel_rfl) rfl #[.int .i64 t474, .int .i64 1, .int .i64 40] rfl (by (try simp only [List.map_toArray, List.map_cons, List.map_nil]); first | done | rfl | (simp only [List.length_drop, List.length_take]; rfl)) ?_; (with_reducible refine (impl_within.calls t474 1 40 true _ A6.out).mono ?_); rintro e w' ⟨rfl, ⟨nd, rfl⟩⟩; refine ⟨_, rfl, ?_⟩; obtain ⟨hcz26_0, hcz26_1, hcz26_2, hcz26_3, hcz26_4, hcz26_5⟩ := c6 BK473.out; obtain ⟨hfz26_0, hfz26_1, hfz26_2, hfz26_3, hfz26_4, hfz26_5⟩ := f6 BK473.out) | (go_at_call 54; (with_reducible refine (impl_within.calls a0_0 1 80 true _ A8.out).mono ?_); rintro e w' ⟨rfl, ⟨nd, rfl⟩⟩) | (go_at_call 98; (with_reducible refine (impl_Checker_isState.calls a0_0 a0_1 _ _ l0_2 _ _ l0_3 _ _ l0_4 _ _ l0_5 a0_1 false _ ?side1 ?side2 ?side3 ?side4 ?side5 ?side6 ?side7 ?side8 A10.out).mono ?_); (case side1 => repeat (first | exact (Kd.C_below HR0_2.out (by repeat (first | (with_reducible first | exact HB.out | apply pA | apply pN | apply pD | refine pS ?_ GE473.out) | exact HB.out))) | (with_reducible refine Kd.C_alloc ?_ _) | (with_reducible refine Kd.C_drewN ?_ _) | (with_reducible refine Kd.C_drew ?_))); (case side2 => exact HC0_2.out); (case side3 => repeat (first | exact (Kd.C_below HR0_3.out (by repeat (first | (with_reducible first | exact HB.out | apply pA | apply pN | apply pD | refine pS ?_ GE473.out) | exact HB.out))) | (with_reducible refine Kd.C_alloc ?_ _) | (with_reducible refine Kd.C_drewN ?_ _) | (with_reducible refine Kd.C_drew ?_))); (case side4 => exact HC0_3.out); (case side5 => repeat (first | exact (Kd.C_below HR0_4.out (by repeat (first | (with_reducible first | exact HB.out | apply pA | apply pN | apply pD | refine pS ?_ GE473.out) | exact HB.out))) | (with_reducible refine Kd.C_alloc ?_ _) | (with_reducible refine Kd.C_drewN ?_ _) | (with_reducible refine Kd.C_drew ?_))); (case side6 => exact HC0_4.out); (case side7 => repeat (first | exact (Kd.C_below HR0_5.out (by repeat (first | (with_reducible first | exact HB.out | apply pA | apply pN | apply pD | refine pS ?_ GE473.out) | exact HB.out))) | (with_reducible refine Kd.C_alloc ?_ _) | (with_reducible refine Kd.C_drewN ?_ _) | (with_reducible refine Kd.C_drew ?_))); (case side8 => exact HC0_5.out); rintro e w27 ⟨rfl, hb⟩; have n0_ := AZ.mk (bb_ (g := gb473) (o := .cells #[.int .i64 a0_0, .int .i64 a0_1, .slice A0_2 l0_2.length c0_2, .slice A0_3 l0_3.length c0_3, .slice A0_4 l0_4.length c0_4, .slice A0_5 l0_5.length c0_5] 27 (0, 0)) (by (with_reducible repeat (first | refine bn_ ?_ _ | refine bd_ ?_ | refine ba_ ?_ _)); exact BK473.out) hb); have n1_ := AZ.mk (pT (by repeat (first | (with_reducible first | exact HB.out | apply pA | apply pN | apply pD | refine pS ?_ GE473.out) | exact HB.out)) hb); clear BK473; clear HB; have BK473 := n0_; have HB := n1_; clear n0_ n1_; (try clear hb); (try clear hb2); (try clear hk); (try clear hi)))
   go_meet
   case rel => exact ⟨_, (true), (by first | rfl | (simp; done) | (simp [*]; done)), H', ⟨by first | omega | exact Nat.le_refl _⟩, ⟨by (with_reducible repeat (first | refine bn_ ?_ _ | refine bd_ ?_ | refine ba_ ?_ _)); exact BK473.out⟩, ⟨by repeat (first | (with_reducible first | exact HB.out | apply pA | apply pN | apply pD | refine pS ?_ GE473.out) | exact HB.out)⟩⟩
  subst c11
  have H1 : ((impl_size_Limpl_Push.f l0_3).bind fun t478 => (if t478 = t474 then ((impl_size_LLint64.f l0_4).bind fun t479 => (if t479 = t474 then ((impl_size_Lint64.f l0_5).bind fun t480 => (impl_ValidChecker.j0 k t474 (t480 != t474) a0_0 a0_1 l0_2 l0_3 l0_4 l0_5)) else (impl_ValidChecker.j0 k t474 true a0_0 a0_1 l0_2 l0_3 l0_4 l0_5))) else (impl_ValidChecker.j0 k t474 true a0_0 a0_1 l0_2 l0_3 l0_4 l0_5))) = some r := by rw [if_pos rfl] at H; exact H
  clear H
  have H := H1
  clear H1
  replace H := Option.bind_eq_some_iff.mp H
  obtain ⟨t478, A120, H⟩ := H
  replace H : (if t478 = t474 then ((impl_size_LLint64.f l0_4).bind fun t479 => (if t479 = t474 then ((impl_size_Lint64.f l0_5).bind fun t480 => (impl_ValidChecker.j0 k t474 (t480 != t474) a0_0 a0_1 l0_2 l0_3 l0_4 l0_5)) else (impl_ValidChecker.j0 k t474 true a0_0 a0_1 l0_2 l0_3 l0_4 l0_5))) else (impl_ValidChecker.j0 k t474 true a0_0 a0_1 l0_2 l0_3 l0_4 l0_5)) = some r := H
  have A12 := AZ.mk A120
  clear A120
  by_cases c13 : t478 = t474
  rotate_left
  ·rw [if_neg c13] at H
   have c13b0 : (t478 == t474) = false := beq_eq_false_iff_ne.mpr c13
   have c13b1 : (t478 != t474) = true := bne_iff_ne.mpr c13
   (first | rw [c13b0] | rw [c13b1] | (simp only [i64_w, i32_w]; rw [c13b0]) | skip)
   have H' := AZ.mk H
   clear H
   go_wp2_with (first | ((with_reducible refine gate_callee (f := 54) rfl ?_); refine goesL_ (some 12) rfl rfl Try.func54 (by kernel_rfl) rfl #[.int .i64 t474, .int .i64 1, .int .i64 40] rfl (by (try simp only [List.map_toArray, List.map_cons, List.map_nil]); first | done | rfl | (simp only [List.length_drop, List.length_take]; rfl)) ?_; (with_reducible refine (impl_within.calls t474 1 40 true _ A6.out).mono ?_); rintro e w' ⟨rfl, ⟨nd, rfl⟩⟩; refine ⟨_, rfl, ?_⟩; obtain ⟨hcz23_0, hcz23_1, hcz23_2, hcz23_3, hcz23_4, hcz23_5⟩ := c6 BK473.out; obtain ⟨hfz23_0, hfz23_1, hfz23_2, hfz23_3, hfz23_4, hfz23_5⟩ := f6 BK473.out) | (go_at_call 54; (with_reducible refine (impl_within.calls a0_0 1 80 true _ A8.out).mono ?_); rintro e w' ⟨rfl, ⟨nd, rfl⟩⟩) | (go_at_call 98; (with_reducible refine (impl_Checker_isState.calls a0_0 a0_1 _ _ l0_2 _ _ l0_3 _ _ l0_4 _ _ l0_5 a0_1 true _ ?side1 ?side2 ?side3 ?side4 ?side5 ?side6 ?side7 ?side8 A10.out).mono ?_); (case side1 => repeat (first | exact (Kd.C_below HR0_2.out (by repeat (first | (with_reducible first | exact HB.out | apply pA | apply pN | apply pD | refine pS ?_ GE473.out) | exact HB.out))) | (with_reducible refine Kd.C_alloc ?_ _) | (with_reducible refine Kd.C_drewN ?_ _) | (with_reducible refine Kd.C_drew ?_))); (case side2 => exact HC0_2.out); (case side3 => repeat (first | exact (Kd.C_below HR0_3.out (by repeat (first | (with_reducible first | exact HB.out | apply pA | apply pN | apply pD | refine pS ?_ GE473.out) | exact HB.out))) | (with_reducible refine Kd.C_alloc ?_ _) | (with_reducible refine Kd.C_drewN ?_ _) | (with_reducible refine Kd.C_drew ?_))); (case side4 => exact HC0_3.out); (case side5 => repeat (first | exact (Kd.C_below HR0_4.out (by repeat (first | (with_reducible first | exact HB.out | apply pA | apply pN | apply pD | refine pS ?_ GE473.out) | exact HB.out))) | (with_reducible refine Kd.C_alloc ?_ _) | (with_reducible refine Kd.C_drewN ?_ _) | (with_reducible refine Kd.C_drew ?_))); (case side6 => exact HC0_4.out); (case side7 => repeat (first | exact (Kd.C_below HR0_5.out (by repeat (first | (with_reducible first | exact HB.out | apply pA | apply pN | apply pD | refine pS ?_ GE473.out) | exact HB.out))) | (with_reducible refine Kd.C_alloc ?_ _) | (with_reducible refine Kd.C_drewN ?_ _) | (with_reducible refine Kd.C_drew ?_))); (case side8 => exact HC0_5.out); rintro e w24 ⟨rfl, hb⟩; have n0_ := AZ.mk (bb_ (g := gb473) (o := .cells #[.int .i64 a0_0, .int .i64 a0_1, .slice A0_2 l0_2.length c0_2, .slice A0_3 l0_3.length c0_3, .slice A0_4 l0_4.length c0_4, .slice A0_5 l0_5.length c0_5] 27 (0, 0)) (by (with_reducible repeat (first | refine bn_ ?_ _ | refine bd_ ?_ | refine ba_ ?_ _)); exact BK473.out) hb); have n1_ := AZ.mk (pT (by repeat (first | (with_reducible first | exact HB.out | apply pA | apply pN | apply pD | refine pS ?_ GE473.out) | exact HB.out)) hb); clear BK473; clear HB; have BK473 := n0_; have HB := n1_; clear n0_ n1_; (try clear hb); (try clear hb2); (try clear hk); (try clear hi); obtain ⟨hcz25_0, hcz25_1, hcz25_2, hcz25_3, hcz25_4, hcz25_5⟩ := c6 BK473.out; obtain ⟨hfz25_0, hfz25_1, hfz25_2, hfz25_3, hfz25_4, hfz25_5⟩ := f6 BK473.out) | (go_at_call 99; (with_reducible refine (impl_size_Limpl_Push.calls _ _ l0_3 t478 _ ?side1 ?side2 A12.out).mono ?_); (case side1 => repeat (first | exact (Kd.C_below HR0_3.out HB.out) | (with_reducible refine Kd.C_alloc ?_ _) | (with_reducible refine Kd.C_drewN ?_ _) | (with_reducible refine Kd.C_drew ?_))); (case side2 => exact HC0_3.out); rintro e w' ⟨rfl, ⟨nd, rfl⟩⟩))
   go_meet
   case rel => exact ⟨_, (true), (by first | rfl | (simp; done) | (simp [*]; done)), H', ⟨by first | omega | exact Nat.le_refl _⟩, ⟨by (with_reducible repeat (first | refine bn_ ?_ _ | refine bd_ ?_ | refine ba_ ?_ _)); exact BK473.out⟩, ⟨by repeat (first | (with_reducible first | exact HB.out | apply pA | apply pN | apply pD | refine pS ?_ GE473.out) | exact HB.out)⟩⟩
  rw [if_pos c13] at H
  have c13b0 : (t478 == t474) = true := beq_iff_eq.mpr c13
  have c13b1 : (t478 != t474) = false := bne_eq_false_iff_eq.mpr c13
  clear c13
  (first | rw [c13b0] | rw [c13b1] | (simp only [i64_w, i32_w]; rw [c13b0]) | skip)
  replace H := Option.bind_eq_some_iff.mp H
  obtain ⟨t479, A140, H⟩ := H
  replace H : (if t479 = t474 then ((impl_size_Lint64.f l0_5).bind fun t480 => (impl_ValidChecker.j0 k t474 (t480 != t474) a0_0 a0_1 l0_2 l0_3 l0_4 l0_5)) else (impl_ValidChecker.j0 k t474 true a0_0 a0_1 l0_2 l0_3 l0_4 l0_5)) = some r := H
  have A14 := AZ.mk A140
  clear A140
  by_cases c15 : t479 = t474
  rotate_left
  ·rw [if_neg c15] at H
   have c15b0 : (t479 == t474) = false := beq_eq_false_iff_ne.mpr c15
   have c15b1 : (t479 != t474) = true := bne_iff_ne.mpr c15
   have H' := AZ.mk H
   clear H
   go_wp2_with (first | ((with_reducible refine gate_callee (f := 54) rfl ?_); refine goesL_ (some 12) rfl rfl Try.func54 (by kernel_rfl) rfl #[.int .i64 t474, .int .i64 1, .int .i64 40] rfl (by (try simp only [List.map_toArray, List.map_cons, List.map_nil]); first | done | rfl | (simp only [List.length_drop, List.length_take]; rfl)) ?_; (with_reducible refine (impl_within.calls t474 1 40 true _ A6.out).mono ?_); rintro e w' ⟨rfl, ⟨nd, rfl⟩⟩; refine ⟨_, rfl, ?_⟩; obtain ⟨hcz20_0, hcz20_1, hcz20_2, hcz20_3, hcz20_4, hcz20_5⟩ := c6 BK473.out; obtain ⟨hfz20_0, hfz20_1, hfz20_2, hfz20_3, hfz20_4, hfz20_5⟩ := f6 BK473.out) | (go_at_call 54; (with_reducible refine (impl_within.calls a0_0 1 80 true _ A8.out).mono ?_); rintro e w' ⟨rfl, ⟨nd, rfl⟩⟩) | (go_at_call 98; (with_reducible refine (impl_Checker_isState.calls a0_0 a0_1 _ _ l0_2 _ _ l0_3 _ _ l0_4 _ _ l0_5 a0_1 true _ ?side1 ?side2 ?side3 ?side4 ?side5 ?side6 ?side7 ?side8 A10.out).mono ?_); (case side1 => repeat (first | exact (Kd.C_below HR0_2.out (by repeat (first | (with_reducible first | exact HB.out | apply pA | apply pN | apply pD | refine pS ?_ GE473.out) | exact HB.out))) | (with_reducible refine Kd.C_alloc ?_ _) | (with_reducible refine Kd.C_drewN ?_ _) | (with_reducible refine Kd.C_drew ?_))); (case side2 => exact HC0_2.out); (case side3 => repeat (first | exact (Kd.C_below HR0_3.out (by repeat (first | (with_reducible first | exact HB.out | apply pA | apply pN | apply pD | refine pS ?_ GE473.out) | exact HB.out))) | (with_reducible refine Kd.C_alloc ?_ _) | (with_reducible refine Kd.C_drewN ?_ _) | (with_reducible refine Kd.C_drew ?_))); (case side4 => exact HC0_3.out); (case side5 => repeat (first | exact (Kd.C_below HR0_4.out (by repeat (first | (with_reducible first | exact HB.out | apply pA | apply pN | apply pD | refine pS ?_ GE473.out) | exact HB.out))) | (with_reducible refine Kd.C_alloc ?_ _) | (with_reducible refine Kd.C_drewN ?_ _) | (with_reducible refine Kd.C_drew ?_))); (case side6 => exact HC0_4.out); (case side7 => repeat (first | exact (Kd.C_below HR0_5.out (by repeat (first | (with_reducible first | exact HB.out | apply pA | apply pN | apply pD | refine pS ?_ GE473.out) | exact HB.out))) | (with_reducible refine Kd.C_alloc ?_ _) | (with_reducible refine Kd.C_drewN ?_ _) | (with_reducible refine Kd.C_drew ?_))); (case side8 => exact HC0_5.out); rintro e w21 ⟨rfl, hb⟩; have n0_ := AZ.mk (bb_ (g := gb473) (o := .cells #[.int .i64 a0_0, .int .i64 a0_1, .slice A0_2 l0_2.length c0_2, .slice A0_3 l0_3.length c0_3, .slice A0_4 l0_4.length c0_4, .slice A0_5 l0_5.length c0_5] 27 (0, 0)) (by (with_reducible repeat (first | refine bn_ ?_ _ | refine bd_ ?_ | refine ba_ ?_ _)); exact BK473.out) hb); have n1_ := AZ.mk (pT (by repeat (first | (with_reducible first | exact HB.out | apply pA | apply pN | apply pD | refine pS ?_ GE473.out) | exact HB.out)) hb); clear BK473; clear HB; have BK473 := n0_; have HB := n1_; clear n0_ n1_; (try clear hb); (try clear hb2); (try clear hk); (try clear hi); obtain ⟨hcz22_0, hcz22_1, hcz22_2, hcz22_3, hcz22_4, hcz22_5⟩ := c6 BK473.out; obtain ⟨hfz22_0, hfz22_1, hfz22_2, hfz22_3, hfz22_4, hfz22_5⟩ := f6 BK473.out) | (go_at_call 99; (with_reducible refine (impl_size_Limpl_Push.calls _ _ l0_3 t478 _ ?side1 ?side2 A12.out).mono ?_); (case side1 => repeat (first | exact (Kd.C_below HR0_3.out HB.out) | (with_reducible refine Kd.C_alloc ?_ _) | (with_reducible refine Kd.C_drewN ?_ _) | (with_reducible refine Kd.C_drew ?_))); (case side2 => exact HC0_3.out); rintro e w' ⟨rfl, ⟨nd, rfl⟩⟩) | (go_at_call 100; (with_reducible refine (impl_size_LLint64.calls _ _ l0_4 t479 _ ?side1 ?side2 A14.out).mono ?_); (case side1 => repeat (first | exact (Kd.C_below HR0_4.out (by repeat (first | (with_reducible first | exact HB.out | apply pA | apply pN | apply pD | refine pS ?_ GE473.out) | exact HB.out))) | (with_reducible refine Kd.C_alloc ?_ _) | (with_reducible refine Kd.C_drewN ?_ _) | (with_reducible refine Kd.C_drew ?_))); (case side2 => exact HC0_4.out); rintro e w' ⟨rfl, ⟨nd, rfl⟩⟩))
   go_meet
   case rel => exact ⟨_, (true), (by first | rfl | (simp; done) | (simp [*]; done)), H', ⟨by first | omega | exact Nat.le_refl _⟩, ⟨by (with_reducible repeat (first | refine bn_ ?_ _ | refine bd_ ?_ | refine ba_ ?_ _)); exact BK473.out⟩, ⟨by repeat (first | (with_reducible first | exact HB.out | apply pA | apply pN | apply pD | refine pS ?_ GE473.out) | exact HB.out)⟩⟩
  rw [if_pos c15] at H
  have c15b0 : (t479 == t474) = true := beq_iff_eq.mpr c15
  have c15b1 : (t479 != t474) = false := bne_eq_false_iff_eq.mpr c15
  clear c15
  replace H := Option.bind_eq_some_iff.mp H
  obtain ⟨t480, A160, H⟩ := H
  replace H : (impl_ValidChecker.j0 k t474 (t480 != t474) a0_0 a0_1 l0_2 l0_3 l0_4 l0_5) = some r := H
  have A16 := AZ.mk A160
  clear A160
  have H' := AZ.mk H
  clear H
  go_wp2_with (first | ((with_reducible refine gate_callee (f := 54) rfl ?_); refine goesL_ (some 12) rfl rfl Try.func54 (by kernel_rfl) rfl #[.int .i64 t474, .int .i64 1, .int .i64 40] rfl (by (try simp only [List.map_toArray, List.map_cons, List.map_nil]); first | done | rfl | (simp only [List.length_drop, List.length_take]; rfl)) ?_; (with_reducible refine (impl_within.calls t474 1 40 true _ A6.out).mono ?_); rintro e w' ⟨rfl, ⟨nd, rfl⟩⟩; refine ⟨_, rfl, ?_⟩; obtain ⟨hcz17_0, hcz17_1, hcz17_2, hcz17_3, hcz17_4, hcz17_5⟩ := c6 BK473.out; obtain ⟨hfz17_0, hfz17_1, hfz17_2, hfz17_3, hfz17_4, hfz17_5⟩ := f6 BK473.out) | (go_at_call 54; (with_reducible refine (impl_within.calls a0_0 1 80 true _ A8.out).mono ?_); rintro e w' ⟨rfl, ⟨nd, rfl⟩⟩) | (go_at_call 98; (with_reducible refine (impl_Checker_isState.calls a0_0 a0_1 _ _ l0_2 _ _ l0_3 _ _ l0_4 _ _ l0_5 a0_1 true _ ?side1 ?side2 ?side3 ?side4 ?side5 ?side6 ?side7 ?side8 A10.out).mono ?_); (case side1 => repeat (first | exact (Kd.C_below HR0_2.out (by repeat (first | (with_reducible first | exact HB.out | apply pA | apply pN | apply pD | refine pS ?_ GE473.out) | exact HB.out))) | (with_reducible refine Kd.C_alloc ?_ _) | (with_reducible refine Kd.C_drewN ?_ _) | (with_reducible refine Kd.C_drew ?_))); (case side2 => exact HC0_2.out); (case side3 => repeat (first | exact (Kd.C_below HR0_3.out (by repeat (first | (with_reducible first | exact HB.out | apply pA | apply pN | apply pD | refine pS ?_ GE473.out) | exact HB.out))) | (with_reducible refine Kd.C_alloc ?_ _) | (with_reducible refine Kd.C_drewN ?_ _) | (with_reducible refine Kd.C_drew ?_))); (case side4 => exact HC0_3.out); (case side5 => repeat (first | exact (Kd.C_below HR0_4.out (by repeat (first | (with_reducible first | exact HB.out | apply pA | apply pN | apply pD | refine pS ?_ GE473.out) | exact HB.out))) | (with_reducible refine Kd.C_alloc ?_ _) | (with_reducible refine Kd.C_drewN ?_ _) | (with_reducible refine Kd.C_drew ?_))); (case side6 => exact HC0_4.out); (case side7 => repeat (first | exact (Kd.C_below HR0_5.out (by repeat (first | (with_reducible first | exact HB.out | apply pA | apply pN | apply pD | refine pS ?_ GE473.out) | exact HB.out))) | (with_reducible refine Kd.C_alloc ?_ _) | (with_reducible refine Kd.C_drewN ?_ _) | (with_reducible refine Kd.C_drew ?_))); (case side8 => exact HC0_5.out); rintro e w18 ⟨rfl, hb⟩; have n0_ := AZ.mk (bb_ (g := gb473) (o := .cells #[.int .i64 a0_0, .int .i64 a0_1, .slice A0_2 l0_2.length c0_2, .slice A0_3 l0_3.length c0_3, .slice A0_4 l0_4.length c0_4, .slice A0_5 l0_5.length c0_5] 27 (0, 0)) (by (with_reducible repeat (first | refine bn_ ?_ _ | refine bd_ ?_ | refine ba_ ?_ _)); exact BK473.out) hb); have n1_ := AZ.mk (pT (by repeat (first | (with_reducible first | exact HB.out | apply pA | apply pN | apply pD | refine pS ?_ GE473.out) | exact HB.out)) hb); clear BK473; clear HB; have BK473 := n0_; have HB := n1_; clear n0_ n1_; (try clear hb); (try clear hb2); (try clear hk); (try clear hi); obtain ⟨hcz19_0, hcz19_1, hcz19_2, hcz19_3, hcz19_4, hcz19_5⟩ := c6 BK473.out; obtain ⟨hfz19_0, hfz19_1, hfz19_2, hfz19_3, hfz19_4, hfz19_5⟩ := f6 BK473.out) | (go_at_call 99; (with_reducible refine (impl_size_Limpl_Push.calls _ _ l0_3 t478 _ ?side1 ?side2 A12.out).mono ?_); (case side1 => repeat (first | exact (Kd.C_below HR0_3.out HB.out) | (with_reducible refine Kd.C_alloc ?_ _) | (with_reducible refine Kd.C_drewN ?_ _) | (with_reducible refine Kd.C_drew ?_))); (case side2 => exact HC0_3.out); rintro e w' ⟨rfl, ⟨nd, rfl⟩⟩) | (go_at_call 100; (with_reducible refine (impl_size_LLint64.calls _ _ l0_4 t479 _ ?side1 ?side2 A14.out).mono ?_); (case side1 => repeat (first | exact (Kd.C_below HR0_4.out (by repeat (first | (with_reducible first | exact HB.out | apply pA | apply pN | apply pD | refine pS ?_ GE473.out) | exact HB.out))) | (with_reducible refine Kd.C_alloc ?_ _) | (with_reducible refine Kd.C_drewN ?_ _) | (with_reducible refine Kd.C_drew ?_))); (case side2 => exact HC0_4.out); rintro e w' ⟨rfl, ⟨nd, rfl⟩⟩) | (go_at_call 101; (with_reducible refine (impl_size_Lint64.calls _ _ l0_5 t480 _ ?side1 ?side2 A16.out).mono ?_); (case side1 => repeat (first | exact (Kd.C_below HR0_5.out (by repeat (first | (with_reducible first | exact HB.out | apply pA | apply pN | apply pD | refine pS ?_ GE473.out) | exact HB.out))) | (with_reducible refine Kd.C_alloc ?_ _) | (with_reducible refine Kd.C_drewN ?_ _) | (with_reducible refine Kd.C_drew ?_))); (case side2 => exact HC0_5.out); rintro e w' ⟨rfl, ⟨nd, rfl⟩⟩))
  go_meet
  case rel => exact ⟨_, ((t480 != t474)), (by first | rfl | (simp; done) | (simp [*]; done)), H', ⟨by first | omega | exact Nat.le_refl _⟩, ⟨by (with_reducible repeat (first | refine bn_ ?_ _ | refine bd_ ?_ | refine ba_ ?_ _)); exact BK473.out⟩, ⟨by repeat (first | (with_reducible first | exact HB.out | apply pA | apply pN | apply pD | refine pS ?_ GE473.out) | exact HB.out)⟩⟩
 case rest =>
  clear HC3
  try clear c1
  try clear p2
  try clear c5
  try clear c7
  try clear c9
  try clear c11
  try clear c13
  try clear c13b0
  try clear c13b1
  try clear c15
  try clear c15b0
  try clear c15b1
  try clear hcz17_0
  try clear hcz17_1
  try clear hcz17_2
  try clear hcz17_3
  try clear hcz17_4
  try clear hcz17_5
  try clear hcz19_0
  try clear hcz19_1
  try clear hcz19_2
  try clear hcz19_3
  try clear hcz19_4
  try clear hcz19_5
  try clear hcz20_0
  try clear hcz20_1
  try clear hcz20_2
  try clear hcz20_3
  try clear hcz20_4
  try clear hcz20_5
  try clear hcz22_0
  try clear hcz22_1
  try clear hcz22_2
  try clear hcz22_3
  try clear hcz22_4
  try clear hcz22_5
  try clear hcz23_0
  try clear hcz23_1
  try clear hcz23_2
  try clear hcz23_3
  try clear hcz23_4
  try clear hcz23_5
  try clear hcz25_0
  try clear hcz25_1
  try clear hcz25_2
  try clear hcz25_3
  try clear hcz25_4
  try clear hcz25_5
  try clear hcz26_0
  try clear hcz26_1
  try clear hcz26_2
  try clear hcz26_3
  try clear hcz26_4
  try clear hcz26_5
  try clear hcz28_0
  try clear hcz28_1
  try clear hcz28_2
  try clear hcz28_3
  try clear hcz28_4
  try clear hcz28_5
  try clear hcz5_0
  try clear hcz5_1
  try clear hcz5_2
  try clear hcz5_3
  try clear hcz5_4
  try clear hcz5_5
  try clear hfz17_0
  try clear hfz17_1
  try clear hfz17_2
  try clear hfz17_3
  try clear hfz17_4
  try clear hfz17_5
  try clear hfz19_0
  try clear hfz19_1
  try clear hfz19_2
  try clear hfz19_3
  try clear hfz19_4
  try clear hfz19_5
  try clear hfz20_0
  try clear hfz20_1
  try clear hfz20_2
  try clear hfz20_3
  try clear hfz20_4
  try clear hfz20_5
  try clear hfz22_0
  try clear hfz22_1
  try clear hfz22_2
  try clear hfz22_3
  try clear hfz22_4
  try clear hfz22_5
  try clear hfz23_0
  try clear hfz23_1
  try clear hfz23_2
  try clear hfz23_3
  try clear hfz23_4
  try clear hfz23_5
  try clear hfz25_0
  try clear hfz25_1
  try clear hfz25_2
  try clear hfz25_3
  try clear hfz25_4
  try clear hfz25_5
  try clear hfz26_0
  try clear hfz26_1
  try clear hfz26_2
  try clear hfz26_3
  try clear hfz26_4
  try clear hfz26_5
  try clear hfz28_0
  try clear hfz28_1
  try clear hfz28_2
  try clear hfz28_3
  try clear hfz28_4
  try clear hfz28_5
  try clear hfz5_0
  try clear hfz5_1
  try clear hfz5_2
  try clear hfz5_3
  try clear hfz5_4
  try clear hfz5_5
  obtain ⟨kq, x47_2, rfl, HA, HJ2, BK473, HB⟩ := hcut
  cases kq with
  | zero => exact absurd HA.out (by simp [impl_ValidChecker.j0])
  | succ kj2 =>
   have H := HA.out
   clear HA
   simp only [impl_ValidChecker.j0] at H
   by_cases c29 : x47_2 = true
   ·subst c29
    have H1 : (some false) = some r := by rw [if_pos rfl] at H; exact H
    clear H
    have H := H1
    clear H1
    obtain rfl := Option.some.inj H
    go_wp2
    go_ret
    exact ⟨by first | rfl | (simp [errW_none, errW_some] <;> rfl) | (simp [*, errW_none, errW_some] <;> rfl), by repeat (first | (with_reducible first | exact HB.out | apply pA | apply pN | apply pD | refine pS ?_ GE473.out) | exact HB.out)⟩
   replace c29 := Bool.eq_false_iff.mpr c29
   subst c29
   have H1 : (impl_ValidChecker.l0 kj2 t474 0 a0_0 a0_1 l0_2 l0_3 l0_4 l0_5) = some r := by rw [if_neg (show ¬ (false = true) by decide)] at H; exact H
   clear H
   have H := H1
   clear H1
   have H' := AZ.mk H
   clear H
   go_wp2
   go_loopg [50] kj2 (fun kq v50 w' => ∃ (x50_2 : Int), v50 = .int .i64 x50_2 ∧ AZ (impl_ValidChecker.l0 kq t474 x50_2 a0_0 a0_1 l0_2 l0_3 l0_4 l0_5 = some r) ∧ AZ (kq ≤ kj2) ∧ AZ (w'.heap[gb473]? = some (.cells #[.int .i64 a0_0, .int .i64 a0_1, (.slice A0_2 l0_2.length c0_2), (.slice A0_3 l0_3.length c0_3), (.slice A0_4 l0_4.length c0_4), (.slice A0_5 l0_5.length c0_5)] 27 (0, 0))) ∧ AZ (Below w.heap.size w w'))
   case atStart => exact ⟨(0), (by first | rfl | (simp; done) | (simp [*]; done)), H', ⟨Nat.le_refl _⟩, ⟨by (with_reducible repeat (first | refine bn_ ?_ _ | refine bd_ ?_ | refine ba_ ?_ _)); exact BK473.out⟩, ⟨by repeat (first | (with_reducible first | exact HB.out | apply pA | apply pN | apply pD | refine pS ?_ GE473.out) | exact HB.out)⟩⟩
   case round =>
    clear H'
    try clear c1
    try clear c2
    try clear p2
    try clear c5
    try clear c7
    try clear c9
    try clear c11
    try clear c13
    try clear c13b0
    try clear c13b1
    try clear c15
    try clear c15b0
    try clear c15b1
    try clear c29
    try clear hcz17_0
    try clear hcz17_1
    try clear hcz17_2
    try clear hcz17_3
    try clear hcz17_4
    try clear hcz17_5
    try clear hcz19_0
    try clear hcz19_1
    try clear hcz19_2
    try clear hcz19_3
    try clear hcz19_4
    try clear hcz19_5
    try clear hcz20_0
    try clear hcz20_1
    try clear hcz20_2
    try clear hcz20_3
    try clear hcz20_4
    try clear hcz20_5
    try clear hcz22_0
    try clear hcz22_1
    try clear hcz22_2
    try clear hcz22_3
    try clear hcz22_4
    try clear hcz22_5
    try clear hcz23_0
    try clear hcz23_1
    try clear hcz23_2
    try clear hcz23_3
    try clear hcz23_4
    try clear hcz23_5
    try clear hcz25_0
    try clear hcz25_1
    try clear hcz25_2
    try clear hcz25_3
    try clear hcz25_4
    try clear hcz25_5
    try clear hcz26_0
    try clear hcz26_1
    try clear hcz26_2
    try clear hcz26_3
    try clear hcz26_4
    try clear hcz26_5
    try clear hcz28_0
    try clear hcz28_1
    try clear hcz28_2
    try clear hcz28_3
    try clear hcz28_4
    try clear hcz28_5
    try clear hcz5_0
    try clear hcz5_1
    try clear hcz5_2
    try clear hcz5_3
    try clear hcz5_4
    try clear hcz5_5
    try clear hfz17_0
    try clear hfz17_1
    try clear hfz17_2
    try clear hfz17_3
    try clear hfz17_4
    try clear hfz17_5
    try clear hfz19_0
    try clear hfz19_1
    try clear hfz19_2
    try clear hfz19_3
    try clear hfz19_4
    try clear hfz19_5
    try clear hfz20_0
    try clear hfz20_1
    try clear hfz20_2
    try clear hfz20_3
    try clear hfz20_4
    try clear hfz20_5
    try clear hfz22_0
    try clear hfz22_1
    try clear hfz22_2
    try clear hfz22_3
    try clear hfz22_4
    try clear hfz22_5
    try clear hfz23_0
    try clear hfz23_1
    try clear hfz23_2
    try clear hfz23_3
    try clear hfz23_4
    try clear hfz23_5
    try clear hfz25_0
    try clear hfz25_1
    try clear hfz25_2
    try clear hfz25_3
    try clear hfz25_4
    try clear hfz25_5
    try clear hfz26_0
    try clear hfz26_1
    try clear hfz26_2
    try clear hfz26_3
    try clear hfz26_4
    try clear hfz26_5
    try clear hfz28_0
    try clear hfz28_1
    try clear hfz28_2
    try clear hfz28_3
    try clear hfz28_4
    try clear hfz28_5
    try clear hfz5_0
    try clear hfz5_1
    try clear hfz5_2
    try clear hfz5_3
    try clear hfz5_4
    try clear hfz5_5
    try clear p2
    obtain ⟨x50_2, rfl, HA, HK2, BK473, HB⟩ := hrel
    cases gk with
    | zero => exact absurd HA.out (by simp [impl_ValidChecker.l0])
    | succ k2 =>
     have H := HA.out
     clear HA
     simp only [impl_ValidChecker.l0] at H
     by_cases c30 : x50_2 < t474
     rotate_left
     ·rw [if_neg c30] at H
      have c30b0 : decide (x50_2 < t474) = false := decide_eq_false c30
      clear c30
      obtain rfl := Option.some.inj H
      go_wp2
      go_ret
      exact ⟨by first | rfl | (simp [errW_none, errW_some] <;> rfl) | (simp [*, errW_none, errW_some] <;> rfl), by repeat (first | (with_reducible first | exact HB.out | apply pA | apply pN | apply pD | refine pS ?_ GE473.out) | exact HB.out)⟩
     rw [if_pos c30] at H
     have c30b0 : decide (x50_2 < t474) = true := decide_eq_true c30
     clear c30
     have HC31 := AZ.mk H
     clear H
     go_upto_region 8 with (fail)
     go_cut [78] (fun v78 wc => ∃ (kq : Nat) (x78_30 : Bool), v78 = .bool x78_30 ∧ AZ (impl_ValidChecker.j2 kq x50_2 t474 x50_2 x78_30 a0_0 a0_1 l0_2 l0_3 l0_4 l0_5 = some r) ∧ AZ (kq ≤ k2) ∧ AZ (wc.heap[gb473]? = some (.cells #[.int .i64 a0_0, .int .i64 a0_1, (.slice A0_2 l0_2.length c0_2), (.slice A0_3 l0_3.length c0_3), (.slice A0_4 l0_4.length c0_4), (.slice A0_5 l0_5.length c0_5)] 27 (0, 0))) ∧ AZ (Below w.heap.size w wc))
     case first =>
      have H := HC31.out
      clear HC31
      by_cases c32 : 0 ≤ x50_2
      rotate_left
      ·rw [if_neg c32] at H
       exact absurd H (by simp)
      rw [if_pos c32] at H
      have c32b0 : decide (0 ≤ x50_2) = true := decide_eq_true c32
      clear c32
      (first | rw [c32b0] | rw [c32b1] | (simp only [i64_w, i32_w]; rw [c32b0]) | skip)
      by_cases c33 : x50_2 < (l0_3.length : Int)
      rotate_left
      ·rw [if_neg c33] at H
       exact absurd H (by simp)
      rw [if_pos c33] at H
      have c33b0 : decide (x50_2 < (l0_3.length : Int)) = true := decide_eq_true c33
      clear c33
      by_cases c34 : ((rd_L3 l0_3 x50_2).length : Int) = 2
      rotate_left
      ·rw [if_neg c34] at H
       have c34b0 : (((rd_L3 l0_3 x50_2).length : Int) == 2) = false := beq_eq_false_iff_ne.mpr c34
       have c34b1 : (((rd_L3 l0_3 x50_2).length : Int) != 2) = true := bne_iff_ne.mpr c34
       have H' := AZ.mk H
       clear H
       obtain ⟨hcz42_0, hcz42_1, hcz42_2, hcz42_3, hcz42_4, hcz42_5⟩ := c6 BK473.out
       obtain ⟨hfz42_0, hfz42_1, hfz42_2, hfz42_3, hfz42_4, hfz42_5⟩ := f6 BK473.out
       have p481 : 0 ≤ (x50_2 : Int) := oT (by first | (with_reducible assumption) | assumption)
       have q481 : x50_2 < (l0_3.length : Int) := oT (by first | (with_reducible assumption) | assumption)
       obtain ⟨ad481, A481_0, c481_0, e481, hx481_0, hl481_0, hi481_0⟩ := at_L3 HR0_3.out x50_2 p481 q481
       cases e481
       replace hx481_0 := (HB.out.cell (World.block_lt_of_cell? w _ hx481_0)).trans hx481_0
       have HR481_0 := AZ.mk hi481_0
       have HC481_0 := AZ.mk hl481_0
       clear hi481_0 hl481_0
       replace p481 := eq_true p481
       replace q481 := eq_true q481
       go_wp2
       go_meet
       case rel => exact ⟨_, (true), (by first | rfl | (simp; done) | (simp [*]; done)), H', ⟨by have := HJ2.out; have := HK2.out; first | omega | exact Nat.le_refl _⟩, ⟨by (with_reducible repeat (first | refine bn_ ?_ _ | refine bd_ ?_ | refine ba_ ?_ _)); exact BK473.out⟩, ⟨by repeat (first | (with_reducible first | exact HB.out | apply pA | apply pN | apply pD | refine pS ?_ GE473.out) | exact HB.out)⟩⟩
      rw [if_pos c34] at H
      have c34b0 : (((rd_L3 l0_3 x50_2).length : Int) == 2) = true := beq_iff_eq.mpr c34
      have c34b1 : (((rd_L3 l0_3 x50_2).length : Int) != 2) = false := bne_eq_false_iff_eq.mpr c34
      clear c34
      by_cases c35 : x50_2 < (l0_4.length : Int)
      rotate_left
      ·rw [if_neg c35] at H
       exact absurd H (by simp)
      rw [if_pos c35] at H
      have c35b0 : decide (x50_2 < (l0_4.length : Int)) = true := decide_eq_true c35
      clear c35
      by_cases c36 : ((rd_L5 l0_4 x50_2).length : Int) = 2
      rotate_left
      ·rw [if_neg c36] at H
       have c36b0 : (((rd_L5 l0_4 x50_2).length : Int) == 2) = false := beq_eq_false_iff_ne.mpr c36
       have c36b1 : (((rd_L5 l0_4 x50_2).length : Int) != 2) = true := bne_iff_ne.mpr c36
       have H' := AZ.mk H
       clear H
       obtain ⟨hcz41_0, hcz41_1, hcz41_2, hcz41_3, hcz41_4, hcz41_5⟩ := c6 BK473.out
       obtain ⟨hfz41_0, hfz41_1, hfz41_2, hfz41_3, hfz41_4, hfz41_5⟩ := f6 BK473.out
       have p481 : 0 ≤ (x50_2 : Int) := oT (by first | (with_reducible assumption) | assumption)
       have q481 : x50_2 < (l0_3.length : Int) := oT (by first | (with_reducible assumption) | assumption)
       obtain ⟨ad481, A481_0, c481_0, e481, hx481_0, hl481_0, hi481_0⟩ := at_L3 HR0_3.out x50_2 p481 q481
       cases e481
       replace hx481_0 := (HB.out.cell (World.block_lt_of_cell? w _ hx481_0)).trans hx481_0
       have HR481_0 := AZ.mk hi481_0
       have HC481_0 := AZ.mk hl481_0
       clear hi481_0 hl481_0
       replace p481 := eq_true p481
       replace q481 := eq_true q481
       have p482 : 0 ≤ (x50_2 : Int) := oT (by first | (with_reducible assumption) | assumption)
       have q482 : x50_2 < (l0_4.length : Int) := oT (by first | (with_reducible assumption) | assumption)
       obtain ⟨ad482, A482_0, c482_0, e482, hx482_0, hl482_0, hi482_0⟩ := at_L5 HR0_4.out x50_2 p482 q482
       cases e482
       replace hx482_0 := (HB.out.cell (World.block_lt_of_cell? w _ hx482_0)).trans hx482_0
       have HR482_0 := AZ.mk hi482_0
       have HC482_0 := AZ.mk hl482_0
       clear hi482_0 hl482_0
       replace p482 := eq_true p482
       replace q482 := eq_true q482
       go_wp2
       go_meet
       case rel => exact ⟨_, (true), (by first | rfl | (simp; done) | (simp [*]; done)), H', ⟨by have := HJ2.out; have := HK2.out; first | omega | exact Nat.le_refl _⟩, ⟨by (with_reducible repeat (first | refine bn_ ?_ _ | refine bd_ ?_ | refine ba_ ?_ _)); exact BK473.out⟩, ⟨by repeat (first | (with_reducible first | exact HB.out | apply pA | apply pN | apply pD | refine pS ?_ GE473.out) | exact HB.out)⟩⟩
      rw [if_pos c36] at H
      have c36b0 : (((rd_L5 l0_4 x50_2).length : Int) == 2) = true := beq_iff_eq.mpr c36
      have c36b1 : (((rd_L5 l0_4 x50_2).length : Int) != 2) = false := bne_eq_false_iff_eq.mpr c36
      clear c36
      by_cases c37 : x50_2 < (l0_5.length : Int)
      rotate_left
      ·rw [if_neg c37] at H
       exact absurd H (by simp)
      rw [if_pos c37] at H
      have c37b0 : decide (x50_2 < (l0_5.length : Int)) = true := decide_eq_true c37
      clear c37
      replace H := Option.bind_eq_some_iff.mp H
      obtain ⟨t484, A380, H⟩ := H
      replace H : (impl_ValidChecker.j2 k2 x50_2 t474 x50_2 (!t484) a0_0 a0_1 l0_2 l0_3 l0_4 l0_5) = some r := H
      have A38 := AZ.mk A380
      clear A380
      have H' := AZ.mk H
      clear H
      obtain ⟨hcz39_0, hcz39_1, hcz39_2, hcz39_3, hcz39_4, hcz39_5⟩ := c6 BK473.out
      obtain ⟨hfz39_0, hfz39_1, hfz39_2, hfz39_3, hfz39_4, hfz39_5⟩ := f6 BK473.out
      have p481 : 0 ≤ (x50_2 : Int) := oT (by first | (with_reducible assumption) | assumption)
      have q481 : x50_2 < (l0_3.length : Int) := oT (by first | (with_reducible assumption) | assumption)
      obtain ⟨ad481, A481_0, c481_0, e481, hx481_0, hl481_0, hi481_0⟩ := at_L3 HR0_3.out x50_2 p481 q481
      cases e481
      replace hx481_0 := (HB.out.cell (World.block_lt_of_cell? w _ hx481_0)).trans hx481_0
      have HR481_0 := AZ.mk hi481_0
      have HC481_0 := AZ.mk hl481_0
      clear hi481_0 hl481_0
      replace p481 := eq_true p481
      replace q481 := eq_true q481
      have p482 : 0 ≤ (x50_2 : Int) := oT (by first | (with_reducible assumption) | assumption)
      have q482 : x50_2 < (l0_4.length : Int) := oT (by first | (with_reducible assumption) | assumption)
      obtain ⟨ad482, A482_0, c482_0, e482, hx482_0, hl482_0, hi482_0⟩ := at_L5 HR0_4.out x50_2 p482 q482
      cases e482
      replace hx482_0 := (HB.out.cell (World.block_lt_of_cell? w _ hx482_0)).trans hx482_0
      have HR482_0 := AZ.mk hi482_0
      have HC482_0 := AZ.mk hl482_0
      clear hi482_0 hl482_0
      replace p482 := eq_true p482
      replace q482 := eq_true q482
      have p483 : 0 ≤ (x50_2 : Int) := oT (by first | (with_reducible assumption) | assumption)
      have q483 : x50_2 < (l0_5.length : Int) := oT (by first | (with_reducible assumption) | assumption)
      obtain ⟨ad483, A483_0, c483_0, e483, hx483_0, hl483_0, hi483_0⟩ := at_L4 HR0_5.out x50_2 p483 q483
      cases e483
      replace hx483_0 := (HB.out.cell (World.block_lt_of_cell? w _ hx483_0)).trans hx483_0
      have HR483_0 := AZ.mk hi483_0
      have HC483_0 := AZ.mk hl483_0
      clear hi483_0 hl483_0
      replace p483 := eq_true p483
      replace q483 := eq_true q483
      go_wp2_with (first | (go_at_call 102; (with_reducible refine (impl_ValidChecker_1_c.calls k2 _ _ (rd_L4 l0_5 x50_2) 2 gb473 a0_0 a0_1 A0_2 c0_2 l0_2 (some ad481) c0_3 l0_3 (some ad482) c0_4 l0_4 (some ad483) c0_5 l0_5 t484 _ ?side1 ?side2 ?side3 ?side4 ?side5 ?side6 ?side7 ?side8 ?side9 ?side10 ?side11 A38.out).mono ?_); (case side1 => repeat (first | exact (Kd.C_below HR483_0.out HB.out) | (with_reducible refine Kd.C_alloc ?_ _) | (with_reducible refine Kd.C_drewN ?_ _) | (with_reducible refine Kd.C_drew ?_))); (case side2 => exact HC483_0.out); (case side3 => repeat (first | exact (Kd.C_below HR0_2.out HB.out) | (with_reducible refine Kd.C_alloc ?_ _) | (with_reducible refine Kd.C_drewN ?_ _) | (with_reducible refine Kd.C_drew ?_))); (case side4 => exact HC0_2.out); (case side5 => repeat (first | exact (Kd.C_below HR0_3.out HB.out) | (with_reducible refine Kd.C_alloc ?_ _) | (with_reducible refine Kd.C_drewN ?_ _) | (with_reducible refine Kd.C_drew ?_))); (case side6 => exact HC0_3.out); (case side7 => repeat (first | exact (Kd.C_below HR0_4.out HB.out) | (with_reducible refine Kd.C_alloc ?_ _) | (with_reducible refine Kd.C_drewN ?_ _) | (with_reducible refine Kd.C_drew ?_))); (case side8 => exact HC0_4.out); (case side9 => repeat (first | exact (Kd.C_below HR0_5.out HB.out) | (with_reducible refine Kd.C_alloc ?_ _) | (with_reducible refine Kd.C_drewN ?_ _) | (with_reducible refine Kd.C_drew ?_))); (case side10 => exact HC0_5.out); (case side11 => exact (by (with_reducible repeat (first | refine bn_ ?_ _ | refine bd_ ?_ | refine ba_ ?_ _)); exact BK473.out)); rintro e w40 ⟨rfl, hb⟩; have n0_ := AZ.mk (bb_ (g := gb473) (o := .cells #[.int .i64 a0_0, .int .i64 a0_1, .slice A0_2 l0_2.length c0_2, .slice (some ad481) l0_3.length c0_3, .slice (some ad482) l0_4.length c0_4, .slice (some ad483) l0_5.length c0_5] 27 (0, 0)) (by (with_reducible repeat (first | refine bn_ ?_ _ | refine bd_ ?_ | refine ba_ ?_ _)); exact BK473.out) hb); have n1_ := AZ.mk (pT (by repeat (first | (with_reducible first | exact HB.out | apply pA | apply pN | apply pD | refine pS ?_ GE473.out) | exact HB.out)) hb); clear BK473; clear HB; have BK473 := n0_; have HB := n1_; clear n0_ n1_; (try clear hb); (try clear hb2); (try clear hk); (try clear hi)))
      go_meet
      case rel => exact ⟨_, (!t484), (by first | rfl | (simp; done) | (simp [*]; done)), H', ⟨by have := HJ2.out; have := HK2.out; first | omega | exact Nat.le_refl _⟩, ⟨by (with_reducible repeat (first | refine bn_ ?_ _ | refine bd_ ?_ | refine ba_ ?_ _)); exact BK473.out⟩, ⟨by repeat (first | (with_reducible first | exact HB.out | apply pA | apply pN | apply pD | refine pS ?_ GE473.out) | exact HB.out)⟩⟩
     case rest =>
      clear HC31
      try clear c1
      try clear c2
      try clear p2
      try clear c3
      try clear c4
      try clear p4
      try clear q4
      try clear hx4
      try clear c5
      try clear c7
      try clear c9
      try clear c11
      try clear c13
      try clear c13b0
      try clear c13b1
      try clear c15
      try clear c15b0
      try clear c15b1
      try clear c29
      try clear c30
      try clear c30b0
      try clear c32
      try clear c32b0
      try clear c32b1
      try clear c33
      try clear c33b0
      try clear c34
      try clear c34b0
      try clear c34b1
      try clear c35
      try clear c35b0
      try clear c36
      try clear c36b0
      try clear c36b1
      try clear c37
      try clear c37b0
      try clear hcz17_0
      try clear hcz17_1
      try clear hcz17_2
      try clear hcz17_3
      try clear hcz17_4
      try clear hcz17_5
      try clear hcz19_0
      try clear hcz19_1
      try clear hcz19_2
      try clear hcz19_3
      try clear hcz19_4
      try clear hcz19_5
      try clear hcz20_0
      try clear hcz20_1
      try clear hcz20_2
      try clear hcz20_3
      try clear hcz20_4
      try clear hcz20_5
      try clear hcz22_0
      try clear hcz22_1
      try clear hcz22_2
      try clear hcz22_3
      try clear hcz22_4
      try clear hcz22_5
      try clear hcz23_0
      try clear hcz23_1
      try clear hcz23_2
      try clear hcz23_3
      try clear hcz23_4
      try clear hcz23_5
      try clear hcz25_0
      try clear hcz25_1
      try clear hcz25_2
      try clear hcz25_3
      try clear hcz25_4
      try clear hcz25_5
      try clear hcz26_0
      try clear hcz26_1
      try clear hcz26_2
      try clear hcz26_3
      try clear hcz26_4
      try clear hcz26_5
      try clear hcz28_0
      try clear hcz28_1
      try clear hcz28_2
      try clear hcz28_3
      try clear hcz28_4
      try clear hcz28_5
      try clear hcz39_0
      try clear hcz39_1
      try clear hcz39_2
      try clear hcz39_3
      try clear hcz39_4
      try clear hcz39_5
      try clear hcz41_0
      try clear hcz41_1
      try clear hcz41_2
      try clear hcz41_3
      try clear hcz41_4
      try clear hcz41_5
      try clear hcz42_0
      try clear hcz42_1
      try clear hcz42_2
      try clear hcz42_3
      try clear hcz42_4
      try clear hcz42_5
      try clear hcz5_0
      try clear hcz5_1
      try clear hcz5_2
      try clear hcz5_3
      try clear hcz5_4
      try clear hcz5_5
      try clear hfz17_0
      try clear hfz17_1
      try clear hfz17_2
      try clear hfz17_3
      try clear hfz17_4
      try clear hfz17_5
      try clear hfz19_0
      try clear hfz19_1
      try clear hfz19_2
      try clear hfz19_3
      try clear hfz19_4
      try clear hfz19_5
      try clear hfz20_0
      try clear hfz20_1
      try clear hfz20_2
      try clear hfz20_3
      try clear hfz20_4
      try clear hfz20_5
      try clear hfz22_0
      try clear hfz22_1
      try clear hfz22_2
      try clear hfz22_3
      try clear hfz22_4
      try clear hfz22_5
      try clear hfz23_0
      try clear hfz23_1
      try clear hfz23_2
      try clear hfz23_3
      try clear hfz23_4
      try clear hfz23_5
      try clear hfz25_0
      try clear hfz25_1
      try clear hfz25_2
      try clear hfz25_3
      try clear hfz25_4
      try clear hfz25_5
      try clear hfz26_0
      try clear hfz26_1
      try clear hfz26_2
      try clear hfz26_3
      try clear hfz26_4
      try clear hfz26_5
      try clear hfz28_0
      try clear hfz28_1
      try clear hfz28_2
      try clear hfz28_3
      try clear hfz28_4
      try clear hfz28_5
      try clear hfz39_0
      try clear hfz39_1
      try clear hfz39_2
      try clear hfz39_3
      try clear hfz39_4
      try clear hfz39_5
      try clear hfz41_0
      try clear hfz41_1
      try clear hfz41_2
      try clear hfz41_3
      try clear hfz41_4
      try clear hfz41_5
      try clear hfz42_0
      try clear hfz42_1
      try clear hfz42_2
      try clear hfz42_3
      try clear hfz42_4
      try clear hfz42_5
      try clear hfz5_0
      try clear hfz5_1
      try clear hfz5_2
      try clear hfz5_3
      try clear hfz5_4
      try clear hfz5_5
      try clear hx481_0
      try clear hx482_0
      try clear hx483_0
      try clear p2
      try clear p481
      try clear p482
      try clear p483
      try clear q481
      try clear q482
      try clear q483
      obtain ⟨kq, x78_30, rfl, HA, HJ30, BK473, HB⟩ := hcut
      cases kq with
      | zero => exact absurd HA.out (by simp [impl_ValidChecker.j2])
      | succ kj30 =>
       have H := HA.out
       clear HA
       simp only [impl_ValidChecker.j2] at H
       by_cases c43 : x78_30 = true
       ·subst c43
        have H1 : (some false) = some r := by rw [if_pos rfl] at H; exact H
        clear H
        have H := H1
        clear H1
        obtain rfl := Option.some.inj H
        go_wp2
        go_ret
        exact ⟨by first | rfl | (simp [errW_none, errW_some] <;> rfl) | (simp [*, errW_none, errW_some] <;> rfl), by repeat (first | (with_reducible first | exact HB.out | apply pA | apply pN | apply pD | refine pS ?_ GE473.out) | exact HB.out)⟩
       replace c43 := Bool.eq_false_iff.mpr c43
       subst c43
       have H1 : (impl_ValidChecker.l1 kj30 x50_2 t474 x50_2 0 a0_0 a0_1 l0_2 l0_3 l0_4 l0_5) = some r := by rw [if_neg (show ¬ (false = true) by decide)] at H; exact H
       clear H
       have H := H1
       clear H1
       have H' := AZ.mk H
       clear H
       go_wp2
       go_loopg [79] kj30 (fun kq v79 w' => ∃ (x79_4 : Int), v79 = .int .i64 x79_4 ∧ AZ (impl_ValidChecker.l1 kq x50_2 t474 x50_2 x79_4 a0_0 a0_1 l0_2 l0_3 l0_4 l0_5 = some r) ∧ AZ (kq ≤ kj30) ∧ AZ (w'.heap[gb473]? = some (.cells #[.int .i64 a0_0, .int .i64 a0_1, (.slice A0_2 l0_2.length c0_2), (.slice A0_3 l0_3.length c0_3), (.slice A0_4 l0_4.length c0_4), (.slice A0_5 l0_5.length c0_5)] 27 (0, 0))) ∧ AZ (Below w.heap.size w w'))
       case atStart => exact ⟨(0), (by first | rfl | (simp; done) | (simp [*]; done)), H', ⟨Nat.le_refl _⟩, ⟨by (with_reducible repeat (first | refine bn_ ?_ _ | refine bd_ ?_ | refine ba_ ?_ _)); exact BK473.out⟩, ⟨by repeat (first | (with_reducible first | exact HB.out | apply pA | apply pN | apply pD | refine pS ?_ GE473.out) | exact HB.out)⟩⟩
       case round =>
        clear H'
        try clear c1
        try clear c2
        try clear p2
        try clear c3
        try clear c4
        try clear p4
        try clear q4
        try clear hx4
        try clear c5
        try clear c7
        try clear c9
        try clear c11
        try clear c13
        try clear c13b0
        try clear c13b1
        try clear c15
        try clear c15b0
        try clear c15b1
        try clear c29
        try clear c30
        try clear c30b0
        try clear c32
        try clear c32b0
        try clear c32b1
        try clear c33
        try clear c33b0
        try clear c34
        try clear c34b0
        try clear c34b1
        try clear c35
        try clear c35b0
        try clear c36
        try clear c36b0
        try clear c36b1
        try clear c37
        try clear c37b0
        try clear c43
        try clear hcz17_0
        try clear hcz17_1
        try clear hcz17_2
        try clear hcz17_3
        try clear hcz17_4
        try clear hcz17_5
        try clear hcz19_0
        try clear hcz19_1
        try clear hcz19_2
        try clear hcz19_3
        try clear hcz19_4
        try clear hcz19_5
        try clear hcz20_0
        try clear hcz20_1
        try clear hcz20_2
        try clear hcz20_3
        try clear hcz20_4
        try clear hcz20_5
        try clear hcz22_0
        try clear hcz22_1
        try clear hcz22_2
        try clear hcz22_3
        try clear hcz22_4
        try clear hcz22_5
        try clear hcz23_0
        try clear hcz23_1
        try clear hcz23_2
        try clear hcz23_3
        try clear hcz23_4
        try clear hcz23_5
        try clear hcz25_0
        try clear hcz25_1
        try clear hcz25_2
        try clear hcz25_3
        try clear hcz25_4
        try clear hcz25_5
        try clear hcz26_0
        try clear hcz26_1
        try clear hcz26_2
        try clear hcz26_3
        try clear hcz26_4
        try clear hcz26_5
        try clear hcz28_0
        try clear hcz28_1
        try clear hcz28_2
        try clear hcz28_3
        try clear hcz28_4
        try clear hcz28_5
        try clear hcz39_0
        try clear hcz39_1
        try clear hcz39_2
        try clear hcz39_3
        try clear hcz39_4
        try clear hcz39_5
        try clear hcz41_0
        try clear hcz41_1
        try clear hcz41_2
        try clear hcz41_3
        try clear hcz41_4
        try clear hcz41_5
        try clear hcz42_0
        try clear hcz42_1
        try clear hcz42_2
        try clear hcz42_3
        try clear hcz42_4
        try clear hcz42_5
        try clear hcz5_0
        try clear hcz5_1
        try clear hcz5_2
        try clear hcz5_3
        try clear hcz5_4
        try clear hcz5_5
        try clear hfz17_0
        try clear hfz17_1
        try clear hfz17_2
        try clear hfz17_3
        try clear hfz17_4
        try clear hfz17_5
        try clear hfz19_0
        try clear hfz19_1
        try clear hfz19_2
        try clear hfz19_3
        try clear hfz19_4
        try clear hfz19_5
        try clear hfz20_0
        try clear hfz20_1
        try clear hfz20_2
        try clear hfz20_3
        try clear hfz20_4
        try clear hfz20_5
        try clear hfz22_0
        try clear hfz22_1
        try clear hfz22_2
        try clear hfz22_3
        try clear hfz22_4
        try clear hfz22_5
        try clear hfz23_0
        try clear hfz23_1
        try clear hfz23_2
        try clear hfz23_3
        try clear hfz23_4
        try clear hfz23_5
        try clear hfz25_0
        try clear hfz25_1
        try clear hfz25_2
        try clear hfz25_3
        try clear hfz25_4
        try clear hfz25_5
        try clear hfz26_0
        try clear hfz26_1
        try clear hfz26_2
        try clear hfz26_3
        try clear hfz26_4
        try clear hfz26_5
        try clear hfz28_0
        try clear hfz28_1
        try clear hfz28_2
        try clear hfz28_3
        try clear hfz28_4
        try clear hfz28_5
        try clear hfz39_0
        try clear hfz39_1
        try clear hfz39_2
        try clear hfz39_3
        try clear hfz39_4
        try clear hfz39_5
        try clear hfz41_0
        try clear hfz41_1
        try clear hfz41_2
        try clear hfz41_3
        try clear hfz41_4
        try clear hfz41_5
        try clear hfz42_0
        try clear hfz42_1
        try clear hfz42_2
        try clear hfz42_3
        try clear hfz42_4
        try clear hfz42_5
        try clear hfz5_0
        try clear hfz5_1
        try clear hfz5_2
        try clear hfz5_3
        try clear hfz5_4
        try clear hfz5_5
        try clear hx481_0
        try clear hx482_0
        try clear hx483_0
        try clear p2
        try clear p4
        try clear p481
        try clear p482
        try clear p483
        try clear q4
        try clear q481
        try clear q482
        try clear q483
        obtain ⟨x79_4, rfl, HA, HK4, BK473, HB⟩ := hrel
        cases gk with
        | zero => exact absurd HA.out (by simp [impl_ValidChecker.l1])
        | succ k4 =>
         have H := HA.out
         clear HA
         simp only [impl_ValidChecker.l1] at H
         by_cases c44 : x79_4 < 2
         rotate_left
         ·rw [if_neg c44] at H
          have c44b0 : decide (x79_4 < 2) = false := decide_eq_false c44
          clear c44
          have H' := AZ.mk H
          clear H
          go_wp2
          go_roundg k4
          case measure => have := HJ2.out; have := HK2.out; have := HJ30.out; have := HK4.out; omega
          case rel => exact ⟨(wrap64 (x50_2 + 1)), (by first | rfl | (simp; done) | (simp [*]; done)), H', ⟨by have := HJ2.out; have := HK2.out; have := HJ30.out; have := HK4.out; omega⟩, ⟨by (with_reducible repeat (first | refine bn_ ?_ _ | refine bd_ ?_ | refine ba_ ?_ _)); exact BK473.out⟩, ⟨by repeat (first | (with_reducible first | exact HB.out | apply pA | apply pN | apply pD | refine pS ?_ GE473.out) | exact HB.out)⟩⟩
         rw [if_pos c44] at H
         have c44b0 : decide (x79_4 < 2) = true := decide_eq_true c44
         clear c44
         by_cases c45 : 0 ≤ x50_2
         rotate_left
         ·rw [if_neg c45] at H
          exact absurd H (by simp)
         rw [if_pos c45] at H
         have c45b0 : decide (0 ≤ x50_2) = true := decide_eq_true c45
         clear c45
         by_cases c46 : x50_2 < (l0_3.length : Int)
         rotate_left
         ·rw [if_neg c46] at H
          exact absurd H (by simp)
         rw [if_pos c46] at H
         have c46b0 : decide (x50_2 < (l0_3.length : Int)) = true := decide_eq_true c46
         clear c46
         by_cases c47 : 0 ≤ x79_4
         rotate_left
         ·rw [if_neg c47] at H
          exact absurd H (by simp)
         rw [if_pos c47] at H
         have c47b0 : decide (0 ≤ x79_4) = true := decide_eq_true c47
         clear c47
         by_cases c48 : x79_4 < ((rd_L3 l0_3 x50_2).length : Int)
         rotate_left
         ·rw [if_neg c48] at H
          exact absurd H (by simp)
         rw [if_pos c48] at H
         have c48b0 : decide (x79_4 < ((rd_L3 l0_3 x50_2).length : Int)) = true := decide_eq_true c48
         clear c48
         replace H := Option.bind_eq_some_iff.mp H
         obtain ⟨t488, A490, H⟩ := H
         replace H : (if t488 = true then ((impl_Checker_isMark.f a0_0 a0_1 l0_2 l0_3 l0_4 l0_5 ((rd_T47 (rd_L3 l0_3 x50_2) x79_4).f1)).bind fun t489 => (if t489 = true then (if x50_2 < (l0_4.length : Int) then (if x79_4 < ((rd_L5 l0_4 x50_2).length : Int) then ((impl_ValidChecker_1_c.f k4 (rd_L4 (rd_L5 l0_4 x50_2) x79_4) (wrap64 (a0_0 + 1)) a0_0 a0_1 l0_2 l0_3 l0_4 l0_5).bind fun t492 => (if t492 = true then (impl_ValidChecker.l1 k4 x50_2 t474 x50_2 (wrap64 (x79_4 + 1)) a0_0 a0_1 l0_2 l0_3 l0_4 l0_5) else (some false))) else (none)) else (none)) else (some false))) else (some false)) = some r := H
         have A49 := AZ.mk A490
         clear A490
         by_cases c50 : t488 = true
         rotate_left
         ·replace c50 := Bool.eq_false_iff.mpr c50
          subst c50
          have H1 : (some false) = some r := by rw [if_neg (show ¬ (false = true) by decide)] at H; exact H
          clear H
          have H := H1
          clear H1
          obtain rfl := Option.some.inj H
          obtain ⟨hcz83_0, hcz83_1, hcz83_2, hcz83_3, hcz83_4, hcz83_5⟩ := c6 BK473.out
          obtain ⟨hfz83_0, hfz83_1, hfz83_2, hfz83_3, hfz83_4, hfz83_5⟩ := f6 BK473.out
          have p485 : 0 ≤ (x50_2 : Int) := oT (by first | (with_reducible assumption) | assumption)
          have q485 : x50_2 < (l0_3.length : Int) := oT (by first | (with_reducible assumption) | assumption)
          obtain ⟨ad485, A485_0, c485_0, e485, hx485_0, hl485_0, hi485_0⟩ := at_L3 HR0_3.out x50_2 p485 q485
          cases e485
          replace hx485_0 := (HB.out.cell (World.block_lt_of_cell? w _ hx485_0)).trans hx485_0
          have HR485_0 := AZ.mk hi485_0
          have HC485_0 := AZ.mk hl485_0
          clear hi485_0 hl485_0
          replace p485 := eq_true p485
          replace q485 := eq_true q485
          have p486 : 0 ≤ (x79_4 : Int) := oT (by first | (with_reducible assumption) | assumption)
          have q486 : x79_4 < ((rd_L3 l0_3 x50_2).length : Int) := oT (by first | (with_reducible assumption) | assumption)
          obtain ⟨ad486, e486, hx486_0, hx486_1⟩ := at_T47 HR485_0.out x79_4 p486 q486
          cases e486
          replace hx486_0 := (HB.out.cell (World.block_lt_of_cell? w _ hx486_0)).trans hx486_0
          replace hx486_1 := (HB.out.cell (World.block_lt_of_cell? w _ hx486_1)).trans hx486_1
          replace p486 := eq_true p486
          replace q486 := eq_true q486
          try go_wp2_with (first | ((with_reducible refine gate_dst (N := 7) rfl ?_); (try (refine gate_guard (by rfl) ?_; dsimp only)); refine box_event ?hg (N := 7) ?hd (cs := #[.int .i64 0, .int .i64 0]) (t := 47) ?hr ?_; (case hd => rfl); (case hg => rfl); (case hr => first | (go_simp; done) | (go_simp; rfl)); intro gb487 hg w84 hbox hb; have n0_ := AZ.mk (bb_ (g := gb473) (o := .cells #[.int .i64 a0_0, .int .i64 a0_1, .slice A0_2 l0_2.length c0_2, .slice (some ad485) l0_3.length c0_3, .slice A0_4 l0_4.length c0_4, .slice A0_5 l0_5.length c0_5] 27 (0, 0)) (by (with_reducible repeat (first | refine bn_ ?_ _ | refine bd_ ?_ | refine ba_ ?_ _)); exact BK473.out) hb); have n1_ := AZ.mk (pT (by repeat (first | (with_reducible first | exact HB.out | apply pA | apply pN | apply pD | refine pS ?_ GE473.out) | exact HB.out)) hb); have n2_ := AZ.mk (hbox); have n3_ := AZ.mk ((by rw [hg]; exact (pZ (by repeat (first | (with_reducible first | exact HB.out | apply pA | apply pN | apply pD | refine pS ?_ GE473.out) | exact HB.out))) : w.heap.size ≤ gb487)); have n4_ := AZ.mk ((by rw [hg]; exact (pZ (by repeat (first | (with_reducible first | exact HB.out | apply pA | apply pN | apply pD | refine pS ?_ GE473.out) | exact HB.out))) : w.heap.size ≤ gb487)); have n5_ := AZ.mk ((by rw [hg]; exact Nat.ne_of_lt (blk_lt (g := gb473) (o := .cells #[.int .i64 a0_0, .int .i64 a0_1, .slice A0_2 l0_2.length c0_2, .slice (some ad485) l0_3.length c0_3, .slice A0_4 l0_4.length c0_4, .slice A0_5 l0_5.length c0_5] 27 (0, 0)) (by (with_reducible repeat (first | refine bn_ ?_ _ | refine bd_ ?_ | refine ba_ ?_ _)); exact BK473.out)) : gb473 ≠ gb487)); have n6_ := AZ.mk ((by rw [hg]; exact Nat.ne_of_gt (blk_lt (g := gb473) (o := .cells #[.int .i64 a0_0, .int .i64 a0_1, .slice A0_2 l0_2.length c0_2, .slice (some ad485) l0_3.length c0_3, .slice A0_4 l0_4.length c0_4, .slice A0_5 l0_5.length c0_5] 27 (0, 0)) (by (with_reducible repeat (first | refine bn_ ?_ _ | refine bd_ ?_ | refine ba_ ?_ _)); exact BK473.out)) : gb487 ≠ gb473)); clear BK473; clear HB; have BK473 := n0_; have HB := n1_; have BK487 := n2_; have GW487 := n3_; have GE487 := n4_; have NB473_487 := n5_; have NB487_473 := n6_; clear n0_ n1_ n2_ n3_ n4_ n5_ n6_; clear hb hbox hg; have hnb85 := NB487_473.out; have hnc85 := NB473_487.out; have hcz86_0 : w84.cell? ⟨gb487, 0, none⟩ = some (.int .i64 0) := (bc BK487.out 0).trans rfl; have hcz86_1 : w84.cell? ⟨gb487, 1, none⟩ = some (.int .i64 0) := (bc BK487.out 1).trans rfl; have hfz86_0 := bf BK487.out 0; have hfz86_1 := bf BK487.out 1))
          have n0_ : AZ (((w84.setCell ⟨gb487, 0, none⟩ (.int .i64 ((rd_T47 (rd_L3 l0_3 x50_2) x79_4).f0))).setCell ⟨gb487, 1, none⟩ (.int .i64 ((rd_T47 (rd_L3 l0_3 x50_2) x79_4).f1))).heap[gb473]? = some (.cells #[.int .i64 a0_0, .int .i64 a0_1, .slice A0_2 l0_2.length c0_2, .slice (some ad485) l0_3.length c0_3, .slice A0_4 l0_4.length c0_4, .slice A0_5 l0_5.length c0_5] 27 (0, 0))) := ⟨by (with_reducible repeat (first | refine bn_ ?_ _ | refine bd_ ?_ | refine ba_ ?_ _)); refine blk_far ?_ NB473_487.out _; (with_reducible repeat (first | refine bn_ ?_ _ | refine bd_ ?_ | refine ba_ ?_ _)); refine blk_far ?_ NB473_487.out _; (with_reducible repeat (first | refine bn_ ?_ _ | refine bd_ ?_ | refine ba_ ?_ _)); exact BK473.out⟩
          have n1_ : AZ (((w84.setCell ⟨gb487, 0, none⟩ (.int .i64 ((rd_T47 (rd_L3 l0_3 x50_2) x79_4).f0))).setCell ⟨gb487, 1, none⟩ (.int .i64 ((rd_T47 (rd_L3 l0_3 x50_2) x79_4).f1))).heap[gb487]? = some (.cells #[.int .i64 ((rd_T47 (rd_L3 l0_3 x50_2) x79_4).f0), .int .i64 ((rd_T47 (rd_L3 l0_3 x50_2) x79_4).f1)] 47 (0, 0))) := ⟨by (with_reducible repeat (first | refine bn_ ?_ _ | refine bd_ ?_ | refine ba_ ?_ _)); refine blk_put (cs := #[.int .i64 ((rd_T47 (rd_L3 l0_3 x50_2) x79_4).f0), .int .i64 0]) ?_ 1 _ rfl; (with_reducible repeat (first | refine bn_ ?_ _ | refine bd_ ?_ | refine ba_ ?_ _)); refine blk_put (cs := #[.int .i64 0, .int .i64 0]) ?_ 0 _ rfl; (with_reducible repeat (first | refine bn_ ?_ _ | refine bd_ ?_ | refine ba_ ?_ _)); exact BK487.out⟩
          have n2_ : AZ (Below w.heap.size w ((w84.setCell ⟨gb487, 0, none⟩ (.int .i64 ((rd_T47 (rd_L3 l0_3 x50_2) x79_4).f0))).setCell ⟨gb487, 1, none⟩ (.int .i64 ((rd_T47 (rd_L3 l0_3 x50_2) x79_4).f1)))) := ⟨by repeat (first | (with_reducible first | exact HB.out | apply pA | apply pN | apply pD | refine pS ?_ GE473.out | refine pS ?_ GE487.out) | exact HB.out)⟩
          (try clear BK473)
          (try clear BK487)
          (try clear HB)
          generalize ((w84.setCell ⟨gb487, 0, none⟩ (.int .i64 ((rd_T47 (rd_L3 l0_3 x50_2) x79_4).f0))).setCell ⟨gb487, 1, none⟩ (.int .i64 ((rd_T47 (rd_L3 l0_3 x50_2) x79_4).f1))) = w87 at n0_ n1_ n2_ ⊢
          have BK473 := n0_
          have BK487 := n1_
          have HB := n2_
          clear n0_ n1_ n2_
          have n0_ := AZ.mk (bd_ BK473.out)
          have n1_ := AZ.mk (bd_ BK487.out)
          have n2_ := AZ.mk (pD HB.out)
          clear BK473
          clear BK487
          clear HB
          have BK473 := n0_
          have BK487 := n1_
          have HB := n2_
          clear n0_ n1_ n2_
          refine start_ (n := 28) (S := fun w' => w'.cell? ⟨gb473, 0, none⟩ = some (.int .i64 a0_0) ∧ w'.cell? ⟨gb473, 1, none⟩ = some (.int .i64 a0_1) ∧ w'.cell? ⟨gb473, 2, none⟩ = some (.slice A0_2 l0_2.length c0_2) ∧ w'.cell? ⟨gb473, 3, none⟩ = some (.slice (some ad485) l0_3.length c0_3) ∧ w'.cell? ⟨gb473, 4, none⟩ = some (.slice A0_4 l0_4.length c0_4) ∧ w'.cell? ⟨gb473, 5, none⟩ = some (.slice A0_5 l0_5.length c0_5) ∧ w'.cell? ⟨gb487, 0, none⟩ = some (.int .i64 ((rd_T47 (rd_L3 l0_3 x50_2) x79_4).f0)) ∧ w'.cell? ⟨gb487, 1, none⟩ = some (.int .i64 ((rd_T47 (rd_L3 l0_3 x50_2) x79_4).f1))) (ds := []) (bz 28 0) (by kernel_rfl) rfl rfl ⟨(bc BK473.out 0).trans rfl, (bc BK473.out 1).trans rfl, (bc BK473.out 2).trans rfl, (bc BK473.out 3).trans rfl, (bc BK473.out 4).trans rfl, (bc BK473.out 5).trans rfl, (bc BK487.out 0).trans rfl, (bc BK487.out 1).trans rfl⟩ (fun hHeld => ?_); refine with_tabW impl_ValidChecker.tab14 impl_ValidChecker.bits14 (fun HT_ HW_ => ?_)
          generalize w87.drew = w88 at BK473 BK487 HB hHeld ⊢
          iterate 3 (first | (refine pz_ HT_ impl_ValidChecker.cz0 rfl rfl rfl (v := ?_) (a' := ?_) (by kernel_rfl) (fun _ _ _ h => h) (Or.inl ⟨by rfl, ?_⟩) ?_ ?_; rotate_left; (intro w'; go_simp; with_reducible rfl); rotate_left; (simp only [Act.put, sA, sB, sC, i64_w, i32_w]; rfl)) | (refine tz_ HT_ HW_ impl_ValidChecker.cz0 rfl rfl rfl (v := ?_) (a' := ?_) (by kernel_rfl) (fun _ _ _ h => h) (Or.inl ⟨by rfl, ?_⟩) hHeld ?_ ?_; rotate_left; (rintro w' ⟨s0, s1, s2, s3, s4, s5, s6, s7⟩; go_simp; with_reducible rfl); rotate_left; (simp only [Act.put, sA, sB, sC, i64_w, i32_w]; rfl)))
          refine one_ (i := 3) (N := some 93) (bz 28 15) rfl rfl (one_of HT_.out (by kernel_rfl)) (by decide) (fun K hK => ?_)
          refine goes_ Try.func98 (by kernel_rfl) rfl #[.agg #[.int .i64 a0_0, .int .i64 a0_1, .slice A0_2 l0_2.length c0_2, .slice (some ad485) l0_3.length c0_3, .slice A0_4 l0_4.length c0_4, .slice A0_5 l0_5.length c0_5], .int .i64 ((rd_T47 (rd_L3 l0_3 x50_2) x79_4).f0)] (by rfl) rfl rfl (by (try simp only [List.map_toArray, List.map_cons, List.map_nil]); first | done | rfl | (simp only [List.length_drop, List.length_take]; rfl)) ?_
          with_reducible refine (impl_Checker_isState.calls a0_0 a0_1 _ _ l0_2 _ _ l0_3 _ _ l0_4 _ _ l0_5 ((rd_T47 (rd_L3 l0_3 x50_2) x79_4).f0) false _ ?side1 ?side2 ?side3 ?side4 ?side5 ?side6 ?side7 ?side8 A49.out).mono ?_
          (case side1 => repeat (first | exact (Kd.C_below HR0_2.out HB.out) | (with_reducible refine Kd.C_alloc ?_ _) | (with_reducible refine Kd.C_drewN ?_ _) | (with_reducible refine Kd.C_drew ?_)))
          (case side2 => exact HC0_2.out)
          (case side3 => repeat (first | exact (Kd.C_below HR0_3.out HB.out) | (with_reducible refine Kd.C_alloc ?_ _) | (with_reducible refine Kd.C_drewN ?_ _) | (with_reducible refine Kd.C_drew ?_)))
          (case side4 => exact HC0_3.out)
          (case side5 => repeat (first | exact (Kd.C_below HR0_4.out HB.out) | (with_reducible refine Kd.C_alloc ?_ _) | (with_reducible refine Kd.C_drewN ?_ _) | (with_reducible refine Kd.C_drew ?_)))
          (case side6 => exact HC0_4.out)
          (case side7 => repeat (first | exact (Kd.C_below HR0_5.out HB.out) | (with_reducible refine Kd.C_alloc ?_ _) | (with_reducible refine Kd.C_drewN ?_ _) | (with_reducible refine Kd.C_drew ?_)))
          (case side8 => exact HC0_5.out)
          rintro e w89 ⟨rfl, hb⟩
          refine ⟨_, rfl, ?_⟩
          have n0_ := AZ.mk (bb_ (g := gb473) (o := .cells #[.int .i64 a0_0, .int .i64 a0_1, .slice A0_2 l0_2.length c0_2, .slice (some ad485) l0_3.length c0_3, .slice A0_4 l0_4.length c0_4, .slice A0_5 l0_5.length c0_5] 27 (0, 0)) (by (with_reducible repeat (first | refine bn_ ?_ _ | refine bd_ ?_ | refine ba_ ?_ _)); exact BK473.out) hb)
          have n1_ := AZ.mk (bb_ (g := gb487) (o := .cells #[.int .i64 ((rd_T47 (rd_L3 l0_3 x50_2) x79_4).f0), .int .i64 ((rd_T47 (rd_L3 l0_3 x50_2) x79_4).f1)] 47 (0, 0)) (by (with_reducible repeat (first | refine bn_ ?_ _ | refine bd_ ?_ | refine ba_ ?_ _)); exact BK487.out) hb)
          have n2_ := AZ.mk (pT (by repeat (first | (with_reducible first | exact HB.out | apply pA | apply pN | apply pD | refine pS ?_ GE473.out | refine pS ?_ GE487.out) | exact HB.out)) hb)
          clear BK473
          clear BK487
          clear HB
          have BK473 := n0_
          have BK487 := n1_
          have HB := n2_
          clear n0_ n1_ n2_
          (try clear hb)
          (try clear hb2)
          (try clear hk)
          (try clear hi)
          refine hK.out _ _ ⟨(bc BK473.out 0).trans rfl, (bc BK473.out 1).trans rfl, (bc BK473.out 2).trans rfl, (bc BK473.out 3).trans rfl, (bc BK473.out 4).trans rfl, (bc BK473.out 5).trans rfl, (bc BK487.out 0).trans rfl, (bc BK487.out 1).trans rfl⟩ (fun hHeld => ?_)
          clear hK K
          refine norm_ (a' := ?_) ?_ ?_
          rotate_left
          ·show Act.put _ (some 93) _ = _
           simp only [Act.put, sA, sB, sC, i64_w, i32_w]
           rfl
          iterate 24 (first | (refine pz_ HT_ impl_ValidChecker.cz5 rfl rfl rfl (v := ?_) (a' := ?_) (by kernel_rfl) (fun _ _ _ h => h) (Or.inl ⟨by rfl, ?_⟩) ?_ ?_; rotate_left; (intro w'; go_simp; with_reducible rfl); rotate_left; (simp only [Act.put, sA, sB, sC, i64_w, i32_w]; rfl)) | (refine uz_ HT_ impl_ValidChecker.cz5 rfl rfl rfl (v := undef) (a' := ?_) (by kernel_rfl) (fun _ _ _ h => h) (Or.inr ⟨by rfl, rfl⟩) ?_ ?_; rotate_left; (simp only [Act.put, sA, sB, sC, i64_w, i32_w]; rfl)))
          refine done_ (done_of HT_.out (by kernel_rfl)) ?_
          try go_wp2
          go_ret
          exact ⟨by first | rfl | (simp [errW_none, errW_some] <;> rfl) | (simp [*, errW_none, errW_some] <;> rfl), by repeat (first | (with_reducible first | exact HB.out | apply pA | apply pN | apply pD | refine pS ?_ GE473.out | refine pS ?_ GE487.out) | exact HB.out)⟩
         subst c50
         have H1 : ((impl_Checker_isMark.f a0_0 a0_1 l0_2 l0_3 l0_4 l0_5 ((rd_T47 (rd_L3 l0_3 x50_2) x79_4).f1)).bind fun t489 => (if t489 = true then (if x50_2 < (l0_4.length : Int) then (if x79_4 < ((rd_L5 l0_4 x50_2).length : Int) then ((impl_ValidChecker_1_c.f k4 (rd_L4 (rd_L5 l0_4 x50_2) x79_4) (wrap64 (a0_0 + 1)) a0_0 a0_1 l0_2 l0_3 l0_4 l0_5).bind fun t492 => (if t492 = true then (impl_ValidChecker.l1 k4 x50_2 t474 x50_2 (wrap64 (x79_4 + 1)) a0_0 a0_1 l0_2 l0_3 l0_4 l0_5) else (some false))) else (none)) else (none)) else (some false))) = some r := by rw [if_pos rfl] at H; exact H
         clear H
         have H := H1
         clear H1
         replace H := Option.bind_eq_some_iff.mp H
         obtain ⟨t489, A510, H⟩ := H
         replace H : (if t489 = true then (if x50_2 < (l0_4.length : Int) then (if x79_4 < ((rd_L5 l0_4 x50_2).length : Int) then ((impl_ValidChecker_1_c.f k4 (rd_L4 (rd_L5 l0_4 x50_2) x79_4) (wrap64 (a0_0 + 1)) a0_0 a0_1 l0_2 l0_3 l0_4 l0_5).bind fun t492 => (if t492 = true then (impl_ValidChecker.l1 k4 x50_2 t474 x50_2 (wrap64 (x79_4 + 1)) a0_0 a0_1 l0_2 l0_3 l0_4 l0_5) else (some false))) else (none)) else (none)) else (some false)) = some r := H
         have A51 := AZ.mk A510
         clear A510
         by_cases c52 : t489 = true
         rotate_left
         ·replace c52 := Bool.eq_false_iff.mpr c52
          subst c52
          have H1 : (some false) = some r := by rw [if_neg (show ¬ (false = true) by decide)] at H; exact H
          clear H
          have H := H1
          clear H1
          obtain rfl := Option.some.inj H
          obtain ⟨hcz75_0, hcz75_1, hcz75_2, hcz75_3, hcz75_4, hcz75_5⟩ := c6 BK473.out
          obtain ⟨hfz75_0, hfz75_1, hfz75_2, hfz75_3, hfz75_4, hfz75_5⟩ := f6 BK473.out
          have p485 : 0 ≤ (x50_2 : Int) := oT (by first | (with_reducible assumption) | assumption)
          have q485 : x50_2 < (l0_3.length : Int) := oT (by first | (with_reducible assumption) | assumption)
          obtain ⟨ad485, A485_0, c485_0, e485, hx485_0, hl485_0, hi485_0⟩ := at_L3 HR0_3.out x50_2 p485 q485
          cases e485
          replace hx485_0 := (HB.out.cell (World.block_lt_of_cell? w _ hx485_0)).trans hx485_0
          have HR485_0 := AZ.mk hi485_0
          have HC485_0 := AZ.mk hl485_0
          clear hi485_0 hl485_0
          replace p485 := eq_true p485
          replace q485 := eq_true q485
          have p486 : 0 ≤ (x79_4 : Int) := oT (by first | (with_reducible assumption) | assumption)
          have q486 : x79_4 < ((rd_L3 l0_3 x50_2).length : Int) := oT (by first | (with_reducible assumption) | assumption)
          obtain ⟨ad486, e486, hx486_0, hx486_1⟩ := at_T47 HR485_0.out x79_4 p486 q486
          cases e486
          replace hx486_0 := (HB.out.cell (World.block_lt_of_cell? w _ hx486_0)).trans hx486_0
          replace hx486_1 := (HB.out.cell (World.block_lt_of_cell? w _ hx486_1)).trans hx486_1
          replace p486 := eq_true p486
          replace q486 := eq_true q486
          try go_wp2_with (first | ((with_reducible refine gate_dst (N := 7) rfl ?_); (try (refine gate_guard (by rfl) ?_; dsimp only)); refine box_event ?hg (N := 7) ?hd (cs := #[.int .i64 0, .int .i64 0]) (t := 47) ?hr ?_; (case hd => rfl); (case hg => rfl); (case hr => first | (go_simp; done) | (go_simp; rfl)); intro gb487 hg w76 hbox hb; have n0_ := AZ.mk (bb_ (g := gb473) (o := .cells #[.int .i64 a0_0, .int .i64 a0_1, .slice A0_2 l0_2.length c0_2, .slice (some ad485) l0_3.length c0_3, .slice A0_4 l0_4.length c0_4, .slice A0_5 l0_5.length c0_5] 27 (0, 0)) (by (with_reducible repeat (first | refine bn_ ?_ _ | refine bd_ ?_ | refine ba_ ?_ _)); exact BK473.out) hb); have n1_ := AZ.mk (pT (by repeat (first | (with_reducible first | exact HB.out | apply pA | apply pN | apply pD | refine pS ?_ GE473.out) | exact HB.out)) hb); have n2_ := AZ.mk (hbox); have n3_ := AZ.mk ((by rw [hg]; exact (pZ (by repeat (first | (with_reducible first | exact HB.out | apply pA | apply pN | apply pD | refine pS ?_ GE473.out) | exact HB.out))) : w.heap.size ≤ gb487)); have n4_ := AZ.mk ((by rw [hg]; exact (pZ (by repeat (first | (with_reducible first | exact HB.out | apply pA | apply pN | apply pD | refine pS ?_ GE473.out) | exact HB.out))) : w.heap.size ≤ gb487)); have n5_ := AZ.mk ((by rw [hg]; exact Nat.ne_of_lt (blk_lt (g := gb473) (o := .cells #[.int .i64 a0_0, .int .i64 a0_1, .slice A0_2 l0_2.length c0_2, .slice (some ad485) l0_3.length c0_3, .slice A0_4 l0_4.length c0_4, .slice A0_5 l0_5.length c0_5] 27 (0, 0)) (by (with_reducible repeat (first | refine bn_ ?_ _ | refine bd_ ?_ | refine ba_ ?_ _)); exact BK473.out)) : gb473 ≠ gb487)); have n6_ := AZ.mk ((by rw [hg]; exact Nat.ne_of_gt (blk_lt (g := gb473) (o := .cells #[.int .i64 a0_0, .int .i64 a0_1, .slice A0_2 l0_2.length c0_2, .slice (some ad485) l0_3.length c0_3, .slice A0_4 l0_4.length c0_4, .slice A0_5 l0_5.length c0_5] 27 (0, 0)) (by (with_reducible repeat (first | refine bn_ ?_ _ | refine bd_ ?_ | refine ba_ ?_ _)); exact BK473.out)) : gb487 ≠ gb473)); clear BK473; clear HB; have BK473 := n0_; have HB := n1_; have BK487 := n2_; have GW487 := n3_; have GE487 := n4_; have NB473_487 := n5_; have NB487_473 := n6_; clear n0_ n1_ n2_ n3_ n4_ n5_ n6_; clear hb hbox hg; have hnb77 := NB487_473.out; have hnc77 := NB473_487.out; have hcz78_0 : w76.cell? ⟨gb487, 0, none⟩ = some (.int .i64 0) := (bc BK487.out 0).trans rfl; have hcz78_1 : w76.cell? ⟨gb487, 1, none⟩ = some (.int .i64 0) := (bc BK487.out 1).trans rfl; have hfz78_0 := bf BK487.out 0; have hfz78_1 := bf BK487.out 1))
          have n0_ : AZ (((w76.setCell ⟨gb487, 0, none⟩ (.int .i64 ((rd_T47 (rd_L3 l0_3 x50_2) x79_4).f0))).setCell ⟨gb487, 1, none⟩ (.int .i64 ((rd_T47 (rd_L3 l0_3 x50_2) x79_4).f1))).heap[gb473]? = some (.cells #[.int .i64 a0_0, .int .i64 a0_1, .slice A0_2 l0_2.length c0_2, .slice (some ad485) l0_3.length c0_3, .slice A0_4 l0_4.length c0_4, .slice A0_5 l0_5.length c0_5] 27 (0, 0))) := ⟨by (with_reducible repeat (first | refine bn_ ?_ _ | refine bd_ ?_ | refine ba_ ?_ _)); refine blk_far ?_ NB473_487.out _; (with_reducible repeat (first | refine bn_ ?_ _ | refine bd_ ?_ | refine ba_ ?_ _)); refine blk_far ?_ NB473_487.out _; (with_reducible repeat (first | refine bn_ ?_ _ | refine bd_ ?_ | refine ba_ ?_ _)); exact BK473.out⟩
          have n1_ : AZ (((w76.setCell ⟨gb487, 0, none⟩ (.int .i64 ((rd_T47 (rd_L3 l0_3 x50_2) x79_4).f0))).setCell ⟨gb487, 1, none⟩ (.int .i64 ((rd_T47 (rd_L3 l0_3 x50_2) x79_4).f1))).heap[gb487]? = some (.cells #[.int .i64 ((rd_T47 (rd_L3 l0_3 x50_2) x79_4).f0), .int .i64 ((rd_T47 (rd_L3 l0_3 x50_2) x79_4).f1)] 47 (0, 0))) := ⟨by (with_reducible repeat (first | refine bn_ ?_ _ | refine bd_ ?_ | refine ba_ ?_ _)); refine blk_put (cs := #[.int .i64 ((rd_T47 (rd_L3 l0_3 x50_2) x79_4).f0), .int .i64 0]) ?_ 1 _ rfl; (with_reducible repeat (first | refine bn_ ?_ _ | refine bd_ ?_ | refine ba_ ?_ _)); refine blk_put (cs := #[.int .i64 0, .int .i64 0]) ?_ 0 _ rfl; (with_reducible repeat (first | refine bn_ ?_ _ | refine bd_ ?_ | refine ba_ ?_ _)); exact BK487.out⟩
          have n2_ : AZ (Below w.heap.size w ((w76.setCell ⟨gb487, 0, none⟩ (.int .i64 ((rd_T47 (rd_L3 l0_3 x50_2) x79_4).f0))).setCell ⟨gb487, 1, none⟩ (.int .i64 ((rd_T47 (rd_L3 l0_3 x50_2) x79_4).f1)))) := ⟨by repeat (first | (with_reducible first | exact HB.out | apply pA | apply pN | apply pD | refine pS ?_ GE473.out | refine pS ?_ GE487.out) | exact HB.out)⟩
          (try clear BK473)
          (try clear BK487)
          (try clear HB)
          generalize ((w76.setCell ⟨gb487, 0, none⟩ (.int .i64 ((rd_T47 (rd_L3 l0_3 x50_2) x79_4).f0))).setCell ⟨gb487, 1, none⟩ (.int .i64 ((rd_T47 (rd_L3 l0_3 x50_2) x79_4).f1))) = w79 at n0_ n1_ n2_ ⊢
          have BK473 := n0_
          have BK487 := n1_
          have HB := n2_
          clear n0_ n1_ n2_
          have n0_ := AZ.mk (bd_ BK473.out)
          have n1_ := AZ.mk (bd_ BK487.out)
          have n2_ := AZ.mk (pD HB.out)
          clear BK473
          clear BK487
          clear HB
          have BK473 := n0_
          have BK487 := n1_
          have HB := n2_
          clear n0_ n1_ n2_
          refine start_ (n := 28) (S := fun w' => w'.cell? ⟨gb473, 0, none⟩ = some (.int .i64 a0_0) ∧ w'.cell? ⟨gb473, 1, none⟩ = some (.int .i64 a0_1) ∧ w'.cell? ⟨gb473, 2, none⟩ = some (.slice A0_2 l0_2.length c0_2) ∧ w'.cell? ⟨gb473, 3, none⟩ = some (.slice (some ad485) l0_3.length c0_3) ∧ w'.cell? ⟨gb473, 4, none⟩ = some (.slice A0_4 l0_4.length c0_4) ∧ w'.cell? ⟨gb473, 5, none⟩ = some (.slice A0_5 l0_5.length c0_5) ∧ w'.cell? ⟨gb487, 0, none⟩ = some (.int .i64 ((rd_T47 (rd_L3 l0_3 x50_2) x79_4).f0)) ∧ w'.cell? ⟨gb487, 1, none⟩ = some (.int .i64 ((rd_T47 (rd_L3 l0_3 x50_2) x79_4).f1))) (ds := []) (bz 28 0) (by kernel_rfl) rfl rfl ⟨(bc BK473.out 0).trans rfl, (bc BK473.out 1).trans rfl, (bc BK473.out 2).trans rfl, (bc BK473.out 3).trans rfl, (bc BK473.out 4).trans rfl, (bc BK473.out 5).trans rfl, (bc BK487.out 0).trans rfl, (bc BK487.out 1).trans rfl⟩ (fun hHeld => ?_); refine with_tabW impl_ValidChecker.tab14 impl_ValidChecker.bits14 (fun HT_ HW_ => ?_)
          generalize w79.drew = w80 at BK473 BK487 HB hHeld ⊢
          iterate 3 (first | (refine pz_ HT_ impl_ValidChecker.cz0 rfl rfl rfl (v := ?_) (a' := ?_) (by kernel_rfl) (fun _ _ _ h => h) (Or.inl ⟨by rfl, ?_⟩) ?_ ?_; rotate_left; (intro w'; go_simp; with_reducible rfl); rotate_left; (simp only [Act.put, sA, sB, sC, i64_w, i32_w]; rfl)) | (refine tz_ HT_ HW_ impl_ValidChecker.cz0 rfl rfl rfl (v := ?_) (a' := ?_) (by kernel_rfl) (fun _ _ _ h => h) (Or.inl ⟨by rfl, ?_⟩) hHeld ?_ ?_; rotate_left; (rintro w' ⟨s0, s1, s2, s3, s4, s5, s6, s7⟩; go_simp; with_reducible rfl); rotate_left; (simp only [Act.put, sA, sB, sC, i64_w, i32_w]; rfl)))
          refine one_ (i := 3) (N := some 93) (bz 28 15) rfl rfl (one_of HT_.out (by kernel_rfl)) (by decide) (fun K hK => ?_)
          refine goes_ Try.func98 (by kernel_rfl) rfl #[.agg #[.int .i64 a0_0, .int .i64 a0_1, .slice A0_2 l0_2.length c0_2, .slice (some ad485) l0_3.length c0_3, .slice A0_4 l0_4.length c0_4, .slice A0_5 l0_5.length c0_5], .int .i64 ((rd_T47 (rd_L3 l0_3 x50_2) x79_4).f0)] (by rfl) rfl rfl (by (try simp only [List.map_toArray, List.map_cons, List.map_nil]); first | done | rfl | (simp only [List.length_drop, List.length_take]; rfl)) ?_
          with_reducible refine (impl_Checker_isState.calls a0_0 a0_1 _ _ l0_2 _ _ l0_3 _ _ l0_4 _ _ l0_5 ((rd_T47 (rd_L3 l0_3 x50_2) x79_4).f0) true _ ?side1 ?side2 ?side3 ?side4 ?side5 ?side6 ?side7 ?side8 A49.out).mono ?_
          (case side1 => repeat (first | exact (Kd.C_below HR0_2.out HB.out) | (with_reducible refine Kd.C_alloc ?_ _) | (with_reducible refine Kd.C_drewN ?_ _) | (with_reducible refine Kd.C_drew ?_)))
          (case side2 => exact HC0_2.out)
          (case side3 => repeat (first | exact (Kd.C_below HR0_3.out HB.out) | (with_reducible refine Kd.C_alloc ?_ _) | (with_reducible refine Kd.C_drewN ?_ _) | (with_reducible refine Kd.C_drew ?_)))
          (case side4 => exact HC0_3.out)
          (case side5 => repeat (first | exact (Kd.C_below HR0_4.out HB.out) | (with_reducible refine Kd.C_alloc ?_ _) | (with_reducible refine Kd.C_drewN ?_ _) | (with_reducible refine Kd.C_drew ?_)))
          (case side6 => exact HC0_4.out)
          (case side7 => repeat (first | exact (Kd.C_below HR0_5.out HB.out) | (with_reducible refine Kd.C_alloc ?_ _) | (with_reducible refine Kd.C_drewN ?_ _) | (with_reducible refine Kd.C_drew ?_)))
          (case side8 => exact HC0_5.out)
          rintro e w81 ⟨rfl, hb⟩
          refine ⟨_, rfl, ?_⟩
          have n0_ := AZ.mk (bb_ (g := gb473) (o := .cells #[.int .i64 a0_0, .int .i64 a0_1, .slice A0_2 l0_2.length c0_2, .slice (some ad485) l0_3.length c0_3, .slice A0_4 l0_4.length c0_4, .slice A0_5 l0_5.length c0_5] 27 (0, 0)) (by (with_reducible repeat (first | refine bn_ ?_ _ | refine bd_ ?_ | refine ba_ ?_ _)); exact BK473.out) hb)
          have n1_ := AZ.mk (bb_ (g := gb487) (o := .cells #[.int .i64 ((rd_T47 (rd_L3 l0_3 x50_2) x79_4).f0), .int .i64 ((rd_T47 (rd_L3 l0_3 x50_2) x79_4).f1)] 47 (0, 0)) (by (with_reducible repeat (first | refine bn_ ?_ _ | refine bd_ ?_ | refine ba_ ?_ _)); exact BK487.out) hb)
          have n2_ := AZ.mk (pT (by repeat (first | (with_reducible first | exact HB.out | apply pA | apply pN | apply pD | refine pS ?_ GE473.out | refine pS ?_ GE487.out) | exact HB.out)) hb)
          clear BK473
          clear BK487
          clear HB
          have BK473 := n0_
          have BK487 := n1_
          have HB := n2_
          clear n0_ n1_ n2_
          (try clear hb)
          (try clear hb2)
          (try clear hk)
          (try clear hi)
          refine hK.out _ _ ⟨(bc BK473.out 0).trans rfl, (bc BK473.out 1).trans rfl, (bc BK473.out 2).trans rfl, (bc BK473.out 3).trans rfl, (bc BK473.out 4).trans rfl, (bc BK473.out 5).trans rfl, (bc BK487.out 0).trans rfl, (bc BK487.out 1).trans rfl⟩ (fun hHeld => ?_)
          clear hK K
          refine norm_ (a' := ?_) ?_ ?_
          rotate_left
          ·show Act.put _ (some 93) _ = _
           simp only [Act.put, sA, sB, sC, i64_w, i32_w]
           rfl
          iterate 5 (first | (refine pz_ HT_ impl_ValidChecker.cz1 rfl rfl rfl (v := ?_) (a' := ?_) (by kernel_rfl) (fun _ _ _ h => h) (Or.inl ⟨by rfl, ?_⟩) ?_ ?_; rotate_left; (intro w'; go_simp; with_reducible rfl); rotate_left; (simp only [Act.put, sA, sB, sC, i64_w, i32_w]; rfl)) | (refine tz_ HT_ HW_ impl_ValidChecker.cz1 rfl rfl rfl (v := ?_) (a' := ?_) (by kernel_rfl) (fun _ _ _ h => h) (Or.inl ⟨by rfl, ?_⟩) hHeld ?_ ?_; rotate_left; (rintro w' ⟨s0, s1, s2, s3, s4, s5, s6, s7⟩; go_simp; with_reducible rfl); rotate_left; (simp only [Act.put, sA, sB, sC, i64_w, i32_w]; rfl)))
          refine one_ (i := 9) (N := some 99) (bz 28 1023) rfl rfl (one_of HT_.out (by kernel_rfl)) (by decide) (fun K hK => ?_)
          refine goes_ Try.func106 (by kernel_rfl) rfl #[.agg #[.int .i64 a0_0, .int .i64 a0_1, .slice A0_2 l0_2.length c0_2, .slice (some ad485) l0_3.length c0_3, .slice A0_4 l0_4.length c0_4, .slice A0_5 l0_5.length c0_5], .int .i64 ((rd_T47 (rd_L3 l0_3 x50_2) x79_4).f1)] (by rfl) rfl rfl (by (try simp only [List.map_toArray, List.map_cons, List.map_nil]); first | done | rfl | (simp only [List.length_drop, List.length_take]; rfl)) ?_
          with_reducible refine (impl_Checker_isMark.calls a0_0 a0_1 _ _ l0_2 _ _ l0_3 _ _ l0_4 _ _ l0_5 ((rd_T47 (rd_L3 l0_3 x50_2) x79_4).f1) false _ ?side1 ?side2 ?side3 ?side4 ?side5 ?side6 ?side7 ?side8 A51.out).mono ?_
          (case side1 => repeat (first | exact (Kd.C_below HR0_2.out HB.out) | (with_reducible refine Kd.C_alloc ?_ _) | (with_reducible refine Kd.C_drewN ?_ _) | (with_reducible refine Kd.C_drew ?_)))
          (case side2 => exact HC0_2.out)
          (case side3 => repeat (first | exact (Kd.C_below HR0_3.out HB.out) | (with_reducible refine Kd.C_alloc ?_ _) | (with_reducible refine Kd.C_drewN ?_ _) | (with_reducible refine Kd.C_drew ?_)))
          (case side4 => exact HC0_3.out)
          (case side5 => repeat (first | exact (Kd.C_below HR0_4.out HB.out) | (with_reducible refine Kd.C_alloc ?_ _) | (with_reducible refine Kd.C_drewN ?_ _) | (with_reducible refine Kd.C_drew ?_)))
          (case side6 => exact HC0_4.out)
          (case side7 => repeat (first | exact (Kd.C_below HR0_5.out HB.out) | (with_reducible refine Kd.C_alloc ?_ _) | (with_reducible refine Kd.C_drewN ?_ _) | (with_reducible refine Kd.C_drew ?_)))
          (case side8 => exact HC0_5.out)
          rintro e w82 ⟨rfl, hb⟩
          refine ⟨_, rfl, ?_⟩
          have n0_ := AZ.mk (bb_ (g := gb473) (o := .cells #[.int .i64 a0_0, .int .i64 a0_1, .slice A0_2 l0_2.length c0_2, .slice (some ad485) l0_3.length c0_3, .slice A0_4 l0_4.length c0_4, .slice A0_5 l0_5.length c0_5] 27 (0, 0)) (by (with_reducible repeat (first | refine bn_ ?_ _ | refine bd_ ?_ | refine ba_ ?_ _)); exact BK473.out) hb)
          have n1_ := AZ.mk (bb_ (g := gb487) (o := .cells #[.int .i64 ((rd_T47 (rd_L3 l0_3 x50_2) x79_4).f0), .int .i64 ((rd_T47 (rd_L3 l0_3 x50_2) x79_4).f1)] 47 (0, 0)) (by (with_reducible repeat (first | refine bn_ ?_ _ | refine bd_ ?_ | refine ba_ ?_ _)); exact BK487.out) hb)
          have n2_ := AZ.mk (pT (by repeat (first | (with_reducible first | exact HB.out | apply pA | apply pN | apply pD | refine pS ?_ GE473.out | refine pS ?_ GE487.out) | exact HB.out)) hb)
          clear BK473
          clear BK487
          clear HB
          have BK473 := n0_
          have BK487 := n1_
          have HB := n2_
          clear n0_ n1_ n2_
          (try clear hb)
          (try clear hb2)
          (try clear hk)
          (try clear hi)
          refine hK.out _ _ ⟨(bc BK473.out 0).trans rfl, (bc BK473.out 1).trans rfl, (bc BK473.out 2).trans rfl, (bc BK473.out 3).trans rfl, (bc BK473.out 4).trans rfl, (bc BK473.out 5).trans rfl, (bc BK487.out 0).trans rfl, (bc BK487.out 1).trans rfl⟩ (fun hHeld => ?_)
          clear hK K
          refine norm_ (a' := ?_) ?_ ?_
          rotate_left
          ·show Act.put _ (some 99) _ = _
           simp only [Act.put, sA, sB, sC, i64_w, i32_w]
           rfl
          iterate 18 (first | (refine pz_ HT_ impl_ValidChecker.cz4 rfl rfl rfl (v := ?_) (a' := ?_) (by kernel_rfl) (fun _ _ _ h => h) (Or.inl ⟨by rfl, ?_⟩) ?_ ?_; rotate_left; (intro w'; go_simp; with_reducible rfl); rotate_left; (simp only [Act.put, sA, sB, sC, i64_w, i32_w]; rfl)) | (refine uz_ HT_ impl_ValidChecker.cz4 rfl rfl rfl (v := undef) (a' := ?_) (by kernel_rfl) (fun _ _ _ h => h) (Or.inr ⟨by rfl, rfl⟩) ?_ ?_; rotate_left; (simp only [Act.put, sA, sB, sC, i64_w, i32_w]; rfl)))
          refine done_ (done_of HT_.out (by kernel_rfl)) ?_
          try go_wp2
          go_ret
          exact ⟨by first | rfl | (simp [errW_none, errW_some] <;> rfl) | (simp [*, errW_none, errW_some] <;> rfl), by repeat (first | (with_reducible first | exact HB.out | apply pA | apply pN | apply pD | refine pS ?_ GE473.out | refine pS ?_ GE487.out) | exact HB.out)⟩
         subst c52
         have H1 : (if x50_2 < (l0_4.length : Int) then (if x79_4 < ((rd_L5 l0_4 x50_2).length : Int) then ((impl_ValidChecker_1_c.f k4 (rd_L4 (rd_L5 l0_4 x50_2) x79_4) (wrap64 (a0_0 + 1)) a0_0 a0_1 l0_2 l0_3 l0_4 l0_5).bind fun t492 => (if t492 = true then (impl_ValidChecker.l1 k4 x50_2 t474 x50_2 (wrap64 (x79_4 + 1)) a0_0 a0_1 l0_2 l0_3 l0_4 l0_5) else (some false))) else (none)) else (none)) = some r := by rw [if_pos rfl] at H; exact H
         clear H
         have H := H1
         clear H1
         by_cases c53 : x50_2 < (l0_4.length : Int)
         rotate_left
         ·rw [if_neg c53] at H
          exact absurd H (by simp)
         rw [if_pos c53] at H
         have c53b0 : decide (x50_2 < (l0_4.length : Int)) = true := decide_eq_true c53
         clear c53
         by_cases c54 : x79_4 < ((rd_L5 l0_4 x50_2).length : Int)
         rotate_left
         ·rw [if_neg c54] at H
          exact absurd H (by simp)
         rw [if_pos c54] at H
         have c54b0 : decide (x79_4 < ((rd_L5 l0_4 x50_2).length : Int)) = true := decide_eq_true c54
         clear c54
         replace H := Option.bind_eq_some_iff.mp H
         obtain ⟨t492, A550, H⟩ := H
         replace H : (if t492 = true then (impl_ValidChecker.l1 k4 x50_2 t474 x50_2 (wrap64 (x79_4 + 1)) a0_0 a0_1 l0_2 l0_3 l0_4 l0_5) else (some false)) = some r := H
         have A55 := AZ.mk A550
         clear A550
         by_cases c56 : t492 = true
         rotate_left
         ·replace c56 := Bool.eq_false_iff.mpr c56
          subst c56
          have H1 : (some false) = some r := by rw [if_neg (show ¬ (false = true) by decide)] at H; exact H
          clear H
          have H := H1
          clear H1
          obtain rfl := Option.some.inj H
          obtain ⟨hcz66_0, hcz66_1, hcz66_2, hcz66_3, hcz66_4, hcz66_5⟩ := c6 BK473.out
          obtain ⟨hfz66_0, hfz66_1, hfz66_2, hfz66_3, hfz66_4, hfz66_5⟩ := f6 BK473.out
          have p485 : 0 ≤ (x50_2 : Int) := oT (by first | (with_reducible assumption) | assumption)
          have q485 : x50_2 < (l0_3.length : Int) := oT (by first | (with_reducible assumption) | assumption)
          obtain ⟨ad485, A485_0, c485_0, e485, hx485_0, hl485_0, hi485_0⟩ := at_L3 HR0_3.out x50_2 p485 q485
          cases e485
          replace hx485_0 := (HB.out.cell (World.block_lt_of_cell? w _ hx485_0)).trans hx485_0
          have HR485_0 := AZ.mk hi485_0
          have HC485_0 := AZ.mk hl485_0
          clear hi485_0 hl485_0
          replace p485 := eq_true p485
          replace q485 := eq_true q485
          have p486 : 0 ≤ (x79_4 : Int) := oT (by first | (with_reducible assumption) | assumption)
          have q486 : x79_4 < ((rd_L3 l0_3 x50_2).length : Int) := oT (by first | (with_reducible assumption) | assumption)
          obtain ⟨ad486, e486, hx486_0, hx486_1⟩ := at_T47 HR485_0.out x79_4 p486 q486
          cases e486
          replace hx486_0 := (HB.out.cell (World.block_lt_of_cell? w _ hx486_0)).trans hx486_0
          replace hx486_1 := (HB.out.cell (World.block_lt_of_cell? w _ hx486_1)).trans hx486_1
          replace p486 := eq_true p486
          replace q486 := eq_true q486
          try go_wp2_with (first | ((with_reducible refine gate_dst (N := 7) rfl ?_); (try (refine gate_guard (by rfl) ?_; dsimp only)); refine box_event ?hg (N := 7) ?hd (cs := #[.int .i64 0, .int .i64 0]) (t := 47) ?hr ?_; (case hd => rfl); (case hg => rfl); (case hr => first | (go_simp; done) | (go_simp; rfl)); intro gb487 hg w67 hbox hb; have n0_ := AZ.mk (bb_ (g := gb473) (o := .cells #[.int .i64 a0_0, .int .i64 a0_1, .slice A0_2 l0_2.length c0_2, .slice (some ad485) l0_3.length c0_3, .slice A0_4 l0_4.length c0_4, .slice A0_5 l0_5.length c0_5] 27 (0, 0)) (by (with_reducible repeat (first | refine bn_ ?_ _ | refine bd_ ?_ | refine ba_ ?_ _)); exact BK473.out) hb); have n1_ := AZ.mk (pT (by repeat (first | (with_reducible first | exact HB.out | apply pA | apply pN | apply pD | refine pS ?_ GE473.out) | exact HB.out)) hb); have n2_ := AZ.mk (hbox); have n3_ := AZ.mk ((by rw [hg]; exact (pZ (by repeat (first | (with_reducible first | exact HB.out | apply pA | apply pN | apply pD | refine pS ?_ GE473.out) | exact HB.out))) : w.heap.size ≤ gb487)); have n4_ := AZ.mk ((by rw [hg]; exact (pZ (by repeat (first | (with_reducible first | exact HB.out | apply pA | apply pN | apply pD | refine pS ?_ GE473.out) | exact HB.out))) : w.heap.size ≤ gb487)); have n5_ := AZ.mk ((by rw [hg]; exact Nat.ne_of_lt (blk_lt (g := gb473) (o := .cells #[.int .i64 a0_0, .int .i64 a0_1, .slice A0_2 l0_2.length c0_2, .slice (some ad485) l0_3.length c0_3, .slice A0_4 l0_4.length c0_4, .slice A0_5 l0_5.length c0_5] 27 (0, 0)) (by (with_reducible repeat (first | refine bn_ ?_ _ | refine bd_ ?_ | refine ba_ ?_ _)); exact BK473.out)) : gb473 ≠ gb487)); have n6_ := AZ.mk ((by rw [hg]; exact Nat.ne_of_gt (blk_lt (g := gb473) (o := .cells #[.int .i64 a0_0, .int .i64 a0_1, .slice A0_2 l0_2.length c0_2, .slice (some ad485) l0_3.length c0_3, .slice A0_4 l0_4.length c0_4, .slice A0_5 l0_5.length c0_5] 27 (0, 0)) (by (with_reducible repeat (first | refine bn_ ?_ _ | refine bd_ ?_ | refine ba_ ?_ _)); exact BK473.out)) : gb487 ≠ gb473)); clear BK473; clear HB; have BK473 := n0_; have HB := n1_; have BK487 := n2_; have GW487 := n3_; have GE487 := n4_; have NB473_487 := n5_; have NB487_473 := n6_; clear n0_ n1_ n2_ n3_ n4_ n5_ n6_; clear hb hbox hg; have hnb68 := NB487_473.out; have hnc68 := NB473_487.out; have hcz69_0 : w67.cell? ⟨gb487, 0, none⟩ = some (.int .i64 0) := (bc BK487.out 0).trans rfl; have hcz69_1 : w67.cell? ⟨gb487, 1, none⟩ = some (.int .i64 0) := (bc BK487.out 1).trans rfl; have hfz69_0 := bf BK487.out 0; have hfz69_1 := bf BK487.out 1))
          have n0_ : AZ (((w67.setCell ⟨gb487, 0, none⟩ (.int .i64 ((rd_T47 (rd_L3 l0_3 x50_2) x79_4).f0))).setCell ⟨gb487, 1, none⟩ (.int .i64 ((rd_T47 (rd_L3 l0_3 x50_2) x79_4).f1))).heap[gb473]? = some (.cells #[.int .i64 a0_0, .int .i64 a0_1, .slice A0_2 l0_2.length c0_2, .slice (some ad485) l0_3.length c0_3, .slice A0_4 l0_4.length c0_4, .slice A0_5 l0_5.length c0_5] 27 (0, 0))) := ⟨by (with_reducible repeat (first | refine bn_ ?_ _ | refine bd_ ?_ | refine ba_ ?_ _)); refine blk_far ?_ NB473_487.out _; (with_reducible repeat (first | refine bn_ ?_ _ | refine bd_ ?_ | refine ba_ ?_ _)); refine blk_far ?_ NB473_487.out _; (with_reducible repeat (first | refine bn_ ?_ _ | refine bd_ ?_ | refine ba_ ?_ _)); exact BK473.out⟩
          have n1_ : AZ (((w67.setCell ⟨gb487, 0, none⟩ (.int .i64 ((rd_T47 (rd_L3 l0_3 x50_2) x79_4).f0))).setCell ⟨gb487, 1, none⟩ (.int .i64 ((rd_T47 (rd_L3 l0_3 x50_2) x79_4).f1))).heap[gb487]? = some (.cells #[.int .i64 ((rd_T47 (rd_L3 l0_3 x50_2) x79_4).f0), .int .i64 ((rd_T47 (rd_L3 l0_3 x50_2) x79_4).f1)] 47 (0, 0))) := ⟨by (with_reducible repeat (first | refine bn_ ?_ _ | refine bd_ ?_ | refine ba_ ?_ _)); refine blk_put (cs := #[.int .i64 ((rd_T47 (rd_L3 l0_3 x50_2) x79_4).f0), .int .i64 0]) ?_ 1 _ rfl; (with_reducible repeat (first | refine bn_ ?_ _ | refine bd_ ?_ | refine ba_ ?_ _)); refine blk_put (cs := #[.int .i64 0, .int .i64 0]) ?_ 0 _ rfl; (with_reducible repeat (first | refine bn_ ?_ _ | refine bd_ ?_ | refine ba_ ?_ _)); exact BK487.out⟩
          have n2_ : AZ (Below w.heap.size w ((w67.setCell ⟨gb487, 0, none⟩ (.int .i64 ((rd_T47 (rd_L3 l0_3 x50_2) x79_4).f0))).setCell ⟨gb487, 1, none⟩ (.int .i64 ((rd_T47 (rd_L3 l0_3 x50_2) x79_4).f1)))) := ⟨by repeat (first | (with_reducible first | exact HB.out | apply pA | apply pN | apply pD | refine pS ?_ GE473.out | refine pS ?_ GE487.out) | exact HB.out)⟩
          (try clear BK473)
          (try clear BK487)
          (try clear HB)
          generalize ((w67.setCell ⟨gb487, 0, none⟩ (.int .i64 ((rd_T47 (rd_L3 l0_3 x50_2) x79_4).f0))).setCell ⟨gb487, 1, none⟩ (.int .i64 ((rd_T47 (rd_L3 l0_3 x50_2) x79_4).f1))) = w70 at n0_ n1_ n2_ ⊢
          have BK473 := n0_
          have BK487 := n1_
          have HB := n2_
          clear n0_ n1_ n2_
          have n0_ := AZ.mk (bd_ BK473.out)
          have n1_ := AZ.mk (bd_ BK487.out)
          have n2_ := AZ.mk (pD HB.out)
          clear BK473
          clear BK487
          clear HB
          have BK473 := n0_
          have BK487 := n1_
          have HB := n2_
          clear n0_ n1_ n2_
          have p490 : 0 ≤ (x50_2 : Int) := oT (by first | (with_reducible assumption) | assumption)
          have q490 : x50_2 < (l0_4.length : Int) := oT (by first | (with_reducible assumption) | assumption)
          obtain ⟨ad490, A490_0, c490_0, e490, hx490_0, hl490_0, hi490_0⟩ := at_L5 HR0_4.out x50_2 p490 q490
          have hw490_0 := hx490_0
          cases e490
          replace hx490_0 := (HB.out.cell (World.block_lt_of_cell? w _ hx490_0)).trans hx490_0
          have HR490_0 := AZ.mk hi490_0
          have HC490_0 := AZ.mk hl490_0
          clear hi490_0 hl490_0
          replace p490 := eq_true p490
          replace q490 := eq_true q490
          have p491 : 0 ≤ (x79_4 : Int) := oT (by first | (with_reducible assumption) | assumption)
          have q491 : x79_4 < ((rd_L5 l0_4 x50_2).length : Int) := oT (by first | (with_reducible assumption) | assumption)
          obtain ⟨ad491, A491_0, c491_0, e491, hx491_0, hl491_0, hi491_0⟩ := at_L4 HR490_0.out x79_4 p491 q491
          have hw491_0 := hx491_0
          cases e491
          replace hx491_0 := (HB.out.cell (World.block_lt_of_cell? w _ hx491_0)).trans hx491_0
          have HR491_0 := AZ.mk hi491_0
          have HC491_0 := AZ.mk hl491_0
          clear hi491_0 hl491_0
          replace p491 := eq_true p491
          replace q491 := eq_true q491
          refine start_ (n := 28) (S := fun w' => w'.cell? ⟨gb473, 0, none⟩ = some (.int .i64 a0_0) ∧ w'.cell? ⟨gb473, 1, none⟩ = some (.int .i64 a0_1) ∧ w'.cell? ⟨gb473, 2, none⟩ = some (.slice A0_2 l0_2.length c0_2) ∧ w'.cell? ⟨gb473, 3, none⟩ = some (.slice (some ad485) l0_3.length c0_3) ∧ w'.cell? ⟨gb473, 4, none⟩ = some (.slice (some ad490) l0_4.length c0_4) ∧ w'.cell? ⟨gb473, 5, none⟩ = some (.slice A0_5 l0_5.length c0_5) ∧ w'.cell? ⟨gb487, 0, none⟩ = some (.int .i64 ((rd_T47 (rd_L3 l0_3 x50_2) x79_4).f0)) ∧ w'.cell? ⟨gb487, 1, none⟩ = some (.int .i64 ((rd_T47 (rd_L3 l0_3 x50_2) x79_4).f1)) ∧ w'.cell? (ad490.add (x50_2).toNat) = some (.slice (some ad491) (rd_L5 l0_4 x50_2).length c490_0) ∧ w'.cell? (ad491.add (x79_4).toNat) = some (.slice A491_0 (rd_L4 (rd_L5 l0_4 x50_2) x79_4).length c491_0)) (ds := []) (bz 28 0) (by kernel_rfl) rfl rfl ⟨(bc BK473.out 0).trans rfl, (bc BK473.out 1).trans rfl, (bc BK473.out 2).trans rfl, (bc BK473.out 3).trans rfl, (bc BK473.out 4).trans rfl, (bc BK473.out 5).trans rfl, (bc BK487.out 0).trans rfl, (bc BK487.out 1).trans rfl, ((HB.out.cell (World.block_lt_of_cell? w _ hw490_0)).trans hw490_0), ((HB.out.cell (World.block_lt_of_cell? w _ hw491_0)).trans hw491_0)⟩ (fun hHeld => ?_); refine with_tabW impl_ValidChecker.tab14 impl_ValidChecker.bits14 (fun HT_ HW_ => ?_)
          generalize w70.drew = w71 at BK473 BK487 HB HR490_0 HR491_0 hx490_0 hx491_0 hHeld ⊢
          iterate 3 (first | (refine pz_ HT_ impl_ValidChecker.cz0 rfl rfl rfl (v := ?_) (a' := ?_) (by kernel_rfl) (fun _ _ _ h => h) (Or.inl ⟨by rfl, ?_⟩) ?_ ?_; rotate_left; (intro w'; go_simp; with_reducible rfl); rotate_left; (simp only [Act.put, sA, sB, sC, i64_w, i32_w]; rfl)) | (refine tz_ HT_ HW_ impl_ValidChecker.cz0 rfl rfl rfl (v := ?_) (a' := ?_) (by kernel_rfl) (fun _ _ _ h => h) (Or.inl ⟨by rfl, ?_⟩) hHeld ?_ ?_; rotate_left; (rintro w' ⟨s0, s1, s2, s3, s4, s5, s6, s7, s8, s9⟩; go_simp; with_reducible rfl); rotate_left; (simp only [Act.put, sA, sB, sC, i64_w, i32_w]; rfl)))
          refine one_ (i := 3) (N := some 93) (bz 28 15) rfl rfl (one_of HT_.out (by kernel_rfl)) (by decide) (fun K hK => ?_)
          refine goes_ Try.func98 (by kernel_rfl) rfl #[.agg #[.int .i64 a0_0, .int .i64 a0_1, .slice A0_2 l0_2.length c0_2, .slice (some ad485) l0_3.length c0_3, .slice (some ad490) l0_4.length c0_4, .slice A0_5 l0_5.length c0_5], .int .i64 ((rd_T47 (rd_L3 l0_3 x50_2) x79_4).f0)] (by rfl) rfl rfl (by (try simp only [List.map_toArray, List.map_cons, List.map_nil]); first | done | rfl | (simp only [List.length_drop, List.length_take]; rfl)) ?_
          with_reducible refine (impl_Checker_isState.calls a0_0 a0_1 _ _ l0_2 _ _ l0_3 _ _ l0_4 _ _ l0_5 ((rd_T47 (rd_L3 l0_3 x50_2) x79_4).f0) true _ ?side1 ?side2 ?side3 ?side4 ?side5 ?side6 ?side7 ?side8 A49.out).mono ?_
          (case side1 => repeat (first | exact (Kd.C_below HR0_2.out HB.out) | (with_reducible refine Kd.C_alloc ?_ _) | (with_reducible refine Kd.C_drewN ?_ _) | (with_reducible refine Kd.C_drew ?_)))
          (case side2 => exact HC0_2.out)
          (case side3 => repeat (first | exact (Kd.C_below HR0_3.out HB.out) | (with_reducible refine Kd.C_alloc ?_ _) | (with_reducible refine Kd.C_drewN ?_ _) | (with_reducible refine Kd.C_drew ?_)))
          (case side4 => exact HC0_3.out)
          (case side5 => repeat (first | exact (Kd.C_below HR0_4.out HB.out) | (with_reducible refine Kd.C_alloc ?_ _) | (with_reducible refine Kd.C_drewN ?_ _) | (with_reducible refine Kd.C_drew ?_)))
          (case side6 => exact HC0_4.out)
          (case side7 => repeat (first | exact (Kd.C_below HR0_5.out HB.out) | (with_reducible refine Kd.C_alloc ?_ _) | (with_reducible refine Kd.C_drewN ?_ _) | (with_reducible refine Kd.C_drew ?_)))
          (case side8 => exact HC0_5.out)
          rintro e w72 ⟨rfl, hb⟩
          refine ⟨_, rfl, ?_⟩
          have n0_ := AZ.mk (bb_ (g := gb473) (o := .cells #[.int .i64 a0_0, .int .i64 a0_1, .slice A0_2 l0_2.length c0_2, .slice (some ad485) l0_3.length c0_3, .slice (some ad490) l0_4.length c0_4, .slice A0_5 l0_5.length c0_5] 27 (0, 0)) (by (with_reducible repeat (first | refine bn_ ?_ _ | refine bd_ ?_ | refine ba_ ?_ _)); exact BK473.out) hb)
          have n1_ := AZ.mk (bb_ (g := gb487) (o := .cells #[.int .i64 ((rd_T47 (rd_L3 l0_3 x50_2) x79_4).f0), .int .i64 ((rd_T47 (rd_L3 l0_3 x50_2) x79_4).f1)] 47 (0, 0)) (by (with_reducible repeat (first | refine bn_ ?_ _ | refine bd_ ?_ | refine ba_ ?_ _)); exact BK487.out) hb)
          have n2_ := AZ.mk (pT (by repeat (first | (with_reducible first | exact HB.out | apply pA | apply pN | apply pD | refine pS ?_ GE473.out | refine pS ?_ GE487.out) | exact HB.out)) hb)
          clear BK473
          clear BK487
          clear HB
          have BK473 := n0_
          have BK487 := n1_
          have HB := n2_
          clear n0_ n1_ n2_
          (try clear hb)
          (try clear hb2)
          (try clear hk)
          (try clear hi)
          refine hK.out _ _ ⟨(bc BK473.out 0).trans rfl, (bc BK473.out 1).trans rfl, (bc BK473.out 2).trans rfl, (bc BK473.out 3).trans rfl, (bc BK473.out 4).trans rfl, (bc BK473.out 5).trans rfl, (bc BK487.out 0).trans rfl, (bc BK487.out 1).trans rfl, ((HB.out.cell (World.block_lt_of_cell? w _ hw490_0)).trans hw490_0), ((HB.out.cell (World.block_lt_of_cell? w _ hw491_0)).trans hw491_0)⟩ (fun hHeld => ?_)
          clear hK K
          refine norm_ (a' := ?_) ?_ ?_
          rotate_left
          ·show Act.put _ (some 93) _ = _
           simp only [Act.put, sA, sB, sC, i64_w, i32_w]
           rfl
          iterate 5 (first | (refine pz_ HT_ impl_ValidChecker.cz1 rfl rfl rfl (v := ?_) (a' := ?_) (by kernel_rfl) (fun _ _ _ h => h) (Or.inl ⟨by rfl, ?_⟩) ?_ ?_; rotate_left; (intro w'; go_simp; with_reducible rfl); rotate_left; (simp only [Act.put, sA, sB, sC, i64_w, i32_w]; rfl)) | (refine tz_ HT_ HW_ impl_ValidChecker.cz1 rfl rfl rfl (v := ?_) (a' := ?_) (by kernel_rfl) (fun _ _ _ h => h) (Or.inl ⟨by rfl, ?_⟩) hHeld ?_ ?_; rotate_left; (rintro w' ⟨s0, s1, s2, s3, s4, s5, s6, s7, s8, s9⟩; go_simp; with_reducible rfl); rotate_left; (simp only [Act.put, sA, sB, sC, i64_w, i32_w]; rfl)))
          refine one_ (i := 9) (N := some 99) (bz 28 1023) rfl rfl (one_of HT_.out (by kernel_rfl)) (by decide) (fun K hK => ?_)
          refine goes_ Try.func106 (by kernel_rfl) rfl #[.agg #[.int .i64 a0_0, .int .i64 a0_1, .slice A0_2 l0_2.length c0_2, .slice (some ad485) l0_3.length c0_3, .slice (some ad490) l0_4.length c0_4, .slice A0_5 l0_5.length c0_5], .int .i64 ((rd_T47 (rd_L3 l0_3 x50_2) x79_4).f1)] (by rfl) rfl rfl (by (try simp only [List.map_toArray, List.map_cons, List.map_nil]); first | done | rfl | (simp only [List.length_drop, List.length_take]; rfl)) ?_
          with_reducible refine (impl_Checker_isMark.calls a0_0 a0_1 _ _ l0_2 _ _ l0_3 _ _ l0_4 _ _ l0_5 ((rd_T47 (rd_L3 l0_3 x50_2) x79_4).f1) true _ ?side1 ?side2 ?side3 ?side4 ?side5 ?side6 ?side7 ?side8 A51.out).mono ?_
          (case side1 => repeat (first | exact (Kd.C_below HR0_2.out HB.out) | (with_reducible refine Kd.C_alloc ?_ _) | (with_reducible refine Kd.C_drewN ?_ _) | (with_reducible refine Kd.C_drew ?_)))
          (case side2 => exact HC0_2.out)
          (case side3 => repeat (first | exact (Kd.C_below HR0_3.out HB.out) | (with_reducible refine Kd.C_alloc ?_ _) | (with_reducible refine Kd.C_drewN ?_ _) | (with_reducible refine Kd.C_drew ?_)))
          (case side4 => exact HC0_3.out)
          (case side5 => repeat (first | exact (Kd.C_below HR0_4.out HB.out) | (with_reducible refine Kd.C_alloc ?_ _) | (with_reducible refine Kd.C_drewN ?_ _) | (with_reducible refine Kd.C_drew ?_)))
          (case side6 => exact HC0_4.out)
          (case side7 => repeat (first | exact (Kd.C_below HR0_5.out HB.out) | (with_reducible refine Kd.C_alloc ?_ _) | (with_reducible refine Kd.C_drewN ?_ _) | (with_reducible refine Kd.C_drew ?_)))
          (case side8 => exact HC0_5.out)
          rintro e w73 ⟨rfl, hb⟩
          refine ⟨_, rfl, ?_⟩
          have n0_ := AZ.mk (bb_ (g := gb473) (o := .cells #[.int .i64 a0_0, .int .i64 a0_1, .slice A0_2 l0_2.length c0_2, .slice (some ad485) l0_3.length c0_3, .slice (some ad490) l0_4.length c0_4, .slice A0_5 l0_5.length c0_5] 27 (0, 0)) (by (with_reducible repeat (first | refine bn_ ?_ _ | refine bd_ ?_ | refine ba_ ?_ _)); exact BK473.out) hb)
          have n1_ := AZ.mk (bb_ (g := gb487) (o := .cells #[.int .i64 ((rd_T47 (rd_L3 l0_3 x50_2) x79_4).f0), .int .i64 ((rd_T47 (rd_L3 l0_3 x50_2) x79_4).f1)] 47 (0, 0)) (by (with_reducible repeat (first | refine bn_ ?_ _ | refine bd_ ?_ | refine ba_ ?_ _)); exact BK487.out) hb)
          have n2_ := AZ.mk (pT (by repeat (first | (with_reducible first | exact HB.out | apply pA | apply pN | apply pD | refine pS ?_ GE473.out | refine pS ?_ GE487.out) | exact HB.out)) hb)
          clear BK473
          clear BK487
          clear HB
          have BK473 := n0_
          have BK487 := n1_
          have HB := n2_
          clear n0_ n1_ n2_
          (try clear hb)
          (try clear hb2)
          (try clear hk)
          (try clear hi)
          refine hK.out _ _ ⟨(bc BK473.out 0).trans rfl, (bc BK473.out 1).trans rfl, (bc BK473.out 2).trans rfl, (bc BK473.out 3).trans rfl, (bc BK473.out 4).trans rfl, (bc BK473.out 5).trans rfl, (bc BK487.out 0).trans rfl, (bc BK487.out 1).trans rfl, ((HB.out.cell (World.block_lt_of_cell? w _ hw490_0)).trans hw490_0), ((HB.out.cell (World.block_lt_of_cell? w _ hw491_0)).trans hw491_0)⟩ (fun hHeld => ?_)
          clear hK K
          refine norm_ (a' := ?_) ?_ ?_
          rotate_left
          ·show Act.put _ (some 99) _ = _
           simp only [Act.put, sA, sB, sC, i64_w, i32_w]
           rfl
          iterate 15 (first | (refine pz_ HT_ impl_ValidChecker.cz2 rfl rfl rfl (v := ?_) (a' := ?_) (by kernel_rfl) (fun _ _ _ h => h) (Or.inl ⟨by rfl, ?_⟩) ?_ ?_; rotate_left; (intro w'; go_simp; with_reducible rfl); rotate_left; (simp only [Act.put, sA, sB, sC, i64_w, i32_w]; rfl)) | (refine tz_ HT_ HW_ impl_ValidChecker.cz2 rfl rfl rfl (v := ?_) (a' := ?_) (by kernel_rfl) (fun _ _ _ h => h) (Or.inl ⟨by rfl, ?_⟩) hHeld ?_ ?_; rotate_left; (rintro w' ⟨s0, s1, s2, s3, s4, s5, s6, s7, s8, s9⟩; go_simp; with_reducible rfl); rotate_left; (simp only [Act.put, sA, sB, sC, i64_w, i32_w]; rfl)))
          refine one_ (i := 25) (N := some 115) (bz 28 67108863) rfl rfl (one_of HT_.out (by kernel_rfl)) (by decide) (fun K hK => ?_)
          refine goesV_ Try.func102 (by kernel_rfl) rfl #[.slice A491_0 (rd_L4 (rd_L5 l0_4 x50_2) x79_4).length c491_0, .int .i64 (wrap64 (a0_0 + 1))] #[.slice A491_0 (rd_L4 (rd_L5 l0_4 x50_2) x79_4).length c491_0, .int .i64 (wrap64 (a0_0 + 1)), .pointer (some ⟨gb473, 0, none⟩)] (by rfl) rfl rfl (by rfl) (by (try simp only [List.map_toArray, List.map_cons, List.map_nil]); first | done | rfl | (simp only [List.length_drop, List.length_take]; rfl)) (by rfl) ?_
          with_reducible refine (impl_ValidChecker_1_c.calls k4 _ _ (rd_L4 (rd_L5 l0_4 x50_2) x79_4) (wrap64 (a0_0 + 1)) gb473 a0_0 a0_1 A0_2 c0_2 l0_2 (some ad485) c0_3 l0_3 (some ad490) c0_4 l0_4 A0_5 c0_5 l0_5 false _ ?side1 ?side2 ?side3 ?side4 ?side5 ?side6 ?side7 ?side8 ?side9 ?side10 ?side11 A55.out).mono ?_
          (case side1 => repeat (first | exact (Kd.C_below HR491_0.out HB.out) | (with_reducible refine Kd.C_alloc ?_ _) | (with_reducible refine Kd.C_drewN ?_ _) | (with_reducible refine Kd.C_drew ?_)))
          (case side2 => exact HC491_0.out)
          (case side3 => repeat (first | exact (Kd.C_below HR0_2.out HB.out) | (with_reducible refine Kd.C_alloc ?_ _) | (with_reducible refine Kd.C_drewN ?_ _) | (with_reducible refine Kd.C_drew ?_)))
          (case side4 => exact HC0_2.out)
          (case side5 => repeat (first | exact (Kd.C_below HR0_3.out HB.out) | (with_reducible refine Kd.C_alloc ?_ _) | (with_reducible refine Kd.C_drewN ?_ _) | (with_reducible refine Kd.C_drew ?_)))
          (case side6 => exact HC0_3.out)
          (case side7 => repeat (first | exact (Kd.C_below HR0_4.out HB.out) | (with_reducible refine Kd.C_alloc ?_ _) | (with_reducible refine Kd.C_drewN ?_ _) | (with_reducible refine Kd.C_drew ?_)))
          (case side8 => exact HC0_4.out)
          (case side9 => repeat (first | exact (Kd.C_below HR0_5.out HB.out) | (with_reducible refine Kd.C_alloc ?_ _) | (with_reducible refine Kd.C_drewN ?_ _) | (with_reducible refine Kd.C_drew ?_)))
          (case side10 => exact HC0_5.out)
          (case side11 => exact (by (with_reducible repeat (first | refine bn_ ?_ _ | refine bd_ ?_ | refine ba_ ?_ _)); exact BK473.out))
          rintro e w74 ⟨rfl, hb⟩
          refine ⟨_, rfl, ?_⟩
          have n0_ := AZ.mk (bb_ (g := gb473) (o := .cells #[.int .i64 a0_0, .int .i64 a0_1, .slice A0_2 l0_2.length c0_2, .slice (some ad485) l0_3.length c0_3, .slice (some ad490) l0_4.length c0_4, .slice A0_5 l0_5.length c0_5] 27 (0, 0)) (by (with_reducible repeat (first | refine bn_ ?_ _ | refine bd_ ?_ | refine ba_ ?_ _)); exact BK473.out) hb)
          have n1_ := AZ.mk (bb_ (g := gb487) (o := .cells #[.int .i64 ((rd_T47 (rd_L3 l0_3 x50_2) x79_4).f0), .int .i64 ((rd_T47 (rd_L3 l0_3 x50_2) x79_4).f1)] 47 (0, 0)) (by (with_reducible repeat (first | refine bn_ ?_ _ | refine bd_ ?_ | refine ba_ ?_ _)); exact BK487.out) hb)
          have n2_ := AZ.mk (pT (by repeat (first | (with_reducible first | exact HB.out | apply pA | apply pN | apply pD | refine pS ?_ GE473.out | refine pS ?_ GE487.out) | exact HB.out)) hb)
          clear BK473
          clear BK487
          clear HB
          have BK473 := n0_
          have BK487 := n1_
          have HB := n2_
          clear n0_ n1_ n2_
          (try clear hb)
          (try clear hb2)
          (try clear hk)
          (try clear hi)
          refine hK.out _ _ ⟨(bc BK473.out 0).trans rfl, (bc BK473.out 1).trans rfl, (bc BK473.out 2).trans rfl, (bc BK473.out 3).trans rfl, (bc BK473.out 4).trans rfl, (bc BK473.out 5).trans rfl, (bc BK487.out 0).trans rfl, (bc BK487.out 1).trans rfl, ((HB.out.cell (World.block_lt_of_cell? w _ hw490_0)).trans hw490_0), ((HB.out.cell (World.block_lt_of_cell? w _ hw491_0)).trans hw491_0)⟩ (fun hHeld => ?_)
          clear hK K
          refine norm_ (a' := ?_) ?_ ?_
          rotate_left
          ·show Act.put _ (some 115) _ = _
           simp only [Act.put, sA, sB, sC, i64_w, i32_w]
           rfl
          iterate 2 (first | (refine pz_ HT_ impl_ValidChecker.cz3 rfl rfl rfl (v := ?_) (a' := ?_) (by kernel_rfl) (fun _ _ _ h => h) (Or.inl ⟨by rfl, ?_⟩) ?_ ?_; rotate_left; (intro w'; go_simp; with_reducible rfl); rotate_left; (simp only [Act.put, sA, sB, sC, i64_w, i32_w]; rfl)))
          refine done_ (done_of HT_.out (by kernel_rfl)) ?_
          try go_wp2
          go_ret
          exact ⟨by first | rfl | (simp [errW_none, errW_some] <;> rfl) | (simp [*, errW_none, errW_some] <;> rfl), by repeat (first | (with_reducible first | exact HB.out | apply pA | apply pN | apply pD | refine pS ?_ GE473.out | refine pS ?_ GE487.out) | exact HB.out)⟩
         subst c56
         have H1 : (impl_ValidChecker.l1 k4 x50_2 t474 x50_2 (wrap64 (x79_4 + 1)) a0_0 a0_1 l0_2 l0_3 l0_4 l0_5) = some r := by rw [if_pos rfl] at H; exact H
         clear H
         have H := H1
         clear H1
         have H' := AZ.mk H
         clear H
         obtain ⟨hcz57_0, hcz57_1, hcz57_2, hcz57_3, hcz57_4, hcz57_5⟩ := c6 BK473.out
         obtain ⟨hfz57_0, hfz57_1, hfz57_2, hfz57_3, hfz57_4, hfz57_5⟩ := f6 BK473.out
         have p485 : 0 ≤ (x50_2 : Int) := oT (by first | (with_reducible assumption) | assumption)
         have q485 : x50_2 < (l0_3.length : Int) := oT (by first | (with_reducible assumption) | assumption)
         obtain ⟨ad485, A485_0, c485_0, e485, hx485_0, hl485_0, hi485_0⟩ := at_L3 HR0_3.out x50_2 p485 q485
         cases e485
         replace hx485_0 := (HB.out.cell (World.block_lt_of_cell? w _ hx485_0)).trans hx485_0
         have HR485_0 := AZ.mk hi485_0
         have HC485_0 := AZ.mk hl485_0
         clear hi485_0 hl485_0
         replace p485 := eq_true p485
         replace q485 := eq_true q485
         have p486 : 0 ≤ (x79_4 : Int) := oT (by first | (with_reducible assumption) | assumption)
         have q486 : x79_4 < ((rd_L3 l0_3 x50_2).length : Int) := oT (by first | (with_reducible assumption) | assumption)
         obtain ⟨ad486, e486, hx486_0, hx486_1⟩ := at_T47 HR485_0.out x79_4 p486 q486
         cases e486
         replace hx486_0 := (HB.out.cell (World.block_lt_of_cell? w _ hx486_0)).trans hx486_0
         replace hx486_1 := (HB.out.cell (World.block_lt_of_cell? w _ hx486_1)).trans hx486_1
         replace p486 := eq_true p486
         replace q486 := eq_true q486
         try go_wp2_with (first | ((with_reducible refine gate_dst (N := 7) rfl ?_); (try (refine gate_guard (by rfl) ?_; dsimp only)); refine box_event ?hg (N := 7) ?hd (cs := #[.int .i64 0, .int .i64 0]) (t := 47) ?hr ?_; (case hd => rfl); (case hg => rfl); (case hr => first | (go_simp; done) | (go_simp; rfl)); intro gb487 hg w58 hbox hb; have n0_ := AZ.mk (bb_ (g := gb473) (o := .cells #[.int .i64 a0_0, .int .i64 a0_1, .slice A0_2 l0_2.length c0_2, .slice (some ad485) l0_3.length c0_3, .slice A0_4 l0_4.length c0_4, .slice A0_5 l0_5.length c0_5] 27 (0, 0)) (by (with_reducible repeat (first | refine bn_ ?_ _ | refine bd_ ?_ | refine ba_ ?_ _)); exact BK473.out) hb); have n1_ := AZ.mk (pT (by repeat (first | (with_reducible first | exact HB.out | apply pA | apply pN | apply pD | refine pS ?_ GE473.out) | exact HB.out)) hb); have n2_ := AZ.mk (hbox); have n3_ := AZ.mk ((by rw [hg]; exact (pZ (by repeat (first | (with_reducible first | exact HB.out | apply pA | apply pN | apply pD | refine pS ?_ GE473.out) | exact HB.out))) : w.heap.size ≤ gb487)); have n4_ := AZ.mk ((by rw [hg]; exact (pZ (by repeat (first | (with_reducible first | exact HB.out | apply pA | apply pN | apply pD | refine pS ?_ GE473.out) | exact HB.out))) : w.heap.size ≤ gb487)); have n5_ := AZ.mk ((by rw [hg]; exact Nat.ne_of_lt (blk_lt (g := gb473) (o := .cells #[.int .i64 a0_0, .int .i64 a0_1, .slice A0_2 l0_2.length c0_2, .slice (some ad485) l0_3.length c0_3, .slice A0_4 l0_4.length c0_4, .slice A0_5 l0_5.length c0_5] 27 (0, 0)) (by (with_reducible repeat (first | refine bn_ ?_ _ | refine bd_ ?_ | refine ba_ ?_ _)); exact BK473.out)) : gb473 ≠ gb487)); have n6_ := AZ.mk ((by rw [hg]; exact Nat.ne_of_gt (blk_lt (g := gb473) (o := .cells #[.int .i64 a0_0, .int .i64 a0_1, .slice A0_2 l0_2.length c0_2, .slice (some ad485) l0_3.length c0_3, .slice A0_4 l0_4.length c0_4, .slice A0_5 l0_5.length c0_5] 27 (0, 0)) (by (with_reducible repeat (first | refine bn_ ?_ _ | refine bd_ ?_ | refine ba_ ?_ _)); exact BK473.out)) : gb487 ≠ gb473)); clear BK473; clear HB; have BK473 := n0_; have HB := n1_; have BK487 := n2_; have GW487 := n3_; have GE487 := n4_; have NB473_487 := n5_; have NB487_473 := n6_; clear n0_ n1_ n2_ n3_ n4_ n5_ n6_; clear hb hbox hg; have hnb59 := NB487_473.out; have hnc59 := NB473_487.out; have hcz60_0 : w58.cell? ⟨gb487, 0, none⟩ = some (.int .i64 0) := (bc BK487.out 0).trans rfl; have hcz60_1 : w58.cell? ⟨gb487, 1, none⟩ = some (.int .i64 0) := (bc BK487.out 1).trans rfl; have hfz60_0 := bf BK487.out 0; have hfz60_1 := bf BK487.out 1))
         have n0_ : AZ (((w58.setCell ⟨gb487, 0, none⟩ (.int .i64 ((rd_T47 (rd_L3 l0_3 x50_2) x79_4).f0))).setCell ⟨gb487, 1, none⟩ (.int .i64 ((rd_T47 (rd_L3 l0_3 x50_2) x79_4).f1))).heap[gb473]? = some (.cells #[.int .i64 a0_0, .int .i64 a0_1, .slice A0_2 l0_2.length c0_2, .slice (some ad485) l0_3.length c0_3, .slice A0_4 l0_4.length c0_4, .slice A0_5 l0_5.length c0_5] 27 (0, 0))) := ⟨by (with_reducible repeat (first | refine bn_ ?_ _ | refine bd_ ?_ | refine ba_ ?_ _)); refine blk_far ?_ NB473_487.out _; (with_reducible repeat (first | refine bn_ ?_ _ | refine bd_ ?_ | refine ba_ ?_ _)); refine blk_far ?_ NB473_487.out _; (with_reducible repeat (first | refine bn_ ?_ _ | refine bd_ ?_ | refine ba_ ?_ _)); exact BK473.out⟩
         have n1_ : AZ (((w58.setCell ⟨gb487, 0, none⟩ (.int .i64 ((rd_T47 (rd_L3 l0_3 x50_2) x79_4).f0))).setCell ⟨gb487, 1, none⟩ (.int .i64 ((rd_T47 (rd_L3 l0_3 x50_2) x79_4).f1))).heap[gb487]? = some (.cells #[.int .i64 ((rd_T47 (rd_L3 l0_3 x50_2) x79_4).f0), .int .i64 ((rd_T47 (rd_L3 l0_3 x50_2) x79_4).f1)] 47 (0, 0))) := ⟨by (with_reducible repeat (first | refine bn_ ?_ _ | refine bd_ ?_ | refine ba_ ?_ _)); refine blk_put (cs := #[.int .i64 ((rd_T47 (rd_L3 l0_3 x50_2) x79_4).f0), .int .i64 0]) ?_ 1 _ rfl; (with_reducible repeat (first | refine bn_ ?_ _ | refine bd_ ?_ | refine ba_ ?_ _)); refine blk_put (cs := #[.int .i64 0, .int .i64 0]) ?_ 0 _ rfl; (with_reducible repeat (first | refine bn_ ?_ _ | refine bd_ ?_ | refine ba_ ?_ _)); exact BK487.out⟩
         have n2_ : AZ (Below w.heap.size w ((w58.setCell ⟨gb487, 0, none⟩ (.int .i64 ((rd_T47 (rd_L3 l0_3 x50_2) x79_4).f0))).setCell ⟨gb487, 1, none⟩ (.int .i64 ((rd_T47 (rd_L3 l0_3 x50_2) x79_4).f1)))) := ⟨by repeat (first | (with_reducible first | exact HB.out | apply pA | apply pN | apply pD | refine pS ?_ GE473.out | refine pS ?_ GE487.out) | exact HB.out)⟩
         (try clear BK473)
         (try clear BK487)
         (try clear HB)
         generalize ((w58.setCell ⟨gb487, 0, none⟩ (.int .i64 ((rd_T47 (rd_L3 l0_3 x50_2) x79_4).f0))).setCell ⟨gb487, 1, none⟩ (.int .i64 ((rd_T47 (rd_L3 l0_3 x50_2) x79_4).f1))) = w61 at n0_ n1_ n2_ ⊢
         have BK473 := n0_
         have BK487 := n1_
         have HB := n2_
         clear n0_ n1_ n2_
         have n0_ := AZ.mk (bd_ BK473.out)
         have n1_ := AZ.mk (bd_ BK487.out)
         have n2_ := AZ.mk (pD HB.out)
         clear BK473
         clear BK487
         clear HB
         have BK473 := n0_
         have BK487 := n1_
         have HB := n2_
         clear n0_ n1_ n2_
         have p490 : 0 ≤ (x50_2 : Int) := oT (by first | (with_reducible assumption) | assumption)
         have q490 : x50_2 < (l0_4.length : Int) := oT (by first | (with_reducible assumption) | assumption)
         obtain ⟨ad490, A490_0, c490_0, e490, hx490_0, hl490_0, hi490_0⟩ := at_L5 HR0_4.out x50_2 p490 q490
         have hw490_0 := hx490_0
         cases e490
         replace hx490_0 := (HB.out.cell (World.block_lt_of_cell? w _ hx490_0)).trans hx490_0
         have HR490_0 := AZ.mk hi490_0
         have HC490_0 := AZ.mk hl490_0
         clear hi490_0 hl490_0
         replace p490 := eq_true p490
         replace q490 := eq_true q490
         have p491 : 0 ≤ (x79_4 : Int) := oT (by first | (with_reducible assumption) | assumption)
         have q491 : x79_4 < ((rd_L5 l0_4 x50_2).length : Int) := oT (by first | (with_reducible assumption) | assumption)
         obtain ⟨ad491, A491_0, c491_0, e491, hx491_0, hl491_0, hi491_0⟩ := at_L4 HR490_0.out x79_4 p491 q491
         have hw491_0 := hx491_0
         cases e491
         replace hx491_0 := (HB.out.cell (World.block_lt_of_cell? w _ hx491_0)).trans hx491_0
         have HR491_0 := AZ.mk hi491_0
         have HC491_0 := AZ.mk hl491_0
         clear hi491_0 hl491_0
         replace p491 := eq_true p491
         replace q491 := eq_true q491
         refine start_ (n := 28) (S := fun w' => w'.cell? ⟨gb473, 0, none⟩ = some (.int .i64 a0_0) ∧ w'.cell? ⟨gb473, 1, none⟩ = some (.int .i64 a0_1) ∧ w'.cell? ⟨gb473, 2, none⟩ = some (.slice A0_2 l0_2.length c0_2) ∧ w'.cell? ⟨gb473, 3, none⟩ = some (.slice (some ad485) l0_3.length c0_3) ∧ w'.cell? ⟨gb473, 4, none⟩ = some (.slice (some ad490) l0_4.length c0_4) ∧ w'.cell? ⟨gb473, 5, none⟩ = some (.slice A0_5 l0_5.length c0_5) ∧ w'.cell? ⟨gb487, 0, none⟩ = some (.int .i64 ((rd_T47 (rd_L3 l0_3 x50_2) x79_4).f0)) ∧ w'.cell? ⟨gb487, 1, none⟩ = some (.int .i64 ((rd_T47 (rd_L3 l0_3 x50_2) x79_4).f1)) ∧ w'.cell? (ad490.add (x50_2).toNat) = some (.slice (some ad491) (rd_L5 l0_4 x50_2).length c490_0) ∧ w'.cell? (ad491.add (x79_4).toNat) = some (.slice A491_0 (rd_L4 (rd_L5 l0_4 x50_2) x79_4).length c491_0)) (ds := []) (bz 28 0) (by kernel_rfl) rfl rfl ⟨(bc BK473.out 0).trans rfl, (bc BK473.out 1).trans rfl, (bc BK473.out 2).trans rfl, (bc BK473.out 3).trans rfl, (bc BK473.out 4).trans rfl, (bc BK473.out 5).trans rfl, (bc BK487.out 0).trans rfl, (bc BK487.out 1).trans rfl, ((HB.out.cell (World.block_lt_of_cell? w _ hw490_0)).trans hw490_0), ((HB.out.cell (World.block_lt_of_cell? w _ hw491_0)).trans hw491_0)⟩ (fun hHeld => ?_); refine with_tabW impl_ValidChecker.tab14 impl_ValidChecker.bits14 (fun HT_ HW_ => ?_)
         generalize w61.drew = w62 at BK473 BK487 HB HR490_0 HR491_0 hx490_0 hx491_0 hHeld ⊢
         iterate 3 (first | (refine pz_ HT_ impl_ValidChecker.cz0 rfl rfl rfl (v := ?_) (a' := ?_) (by kernel_rfl) (fun _ _ _ h => h) (Or.inl ⟨by rfl, ?_⟩) ?_ ?_; rotate_left; (intro w'; go_simp; with_reducible rfl); rotate_left; (simp only [Act.put, sA, sB, sC, i64_w, i32_w]; rfl)) | (refine tz_ HT_ HW_ impl_ValidChecker.cz0 rfl rfl rfl (v := ?_) (a' := ?_) (by kernel_rfl) (fun _ _ _ h => h) (Or.inl ⟨by rfl, ?_⟩) hHeld ?_ ?_; rotate_left; (rintro w' ⟨s0, s1, s2, s3, s4, s5, s6, s7, s8, s9⟩; go_simp; with_reducible rfl); rotate_left; (simp only [Act.put, sA, sB, sC, i64_w, i32_w]; rfl)))
         refine one_ (i := 3) (N := some 93) (bz 28 15) rfl rfl (one_of HT_.out (by kernel_rfl)) (by decide) (fun K hK => ?_)
         refine goes_ Try.func98 (by kernel_rfl) rfl #[.agg #[.int .i64 a0_0, .int .i64 a0_1, .slice A0_2 l0_2.length c0_2, .slice (some ad485) l0_3.length c0_3, .slice (some ad490) l0_4.length c0_4, .slice A0_5 l0_5.length c0_5], .int .i64 ((rd_T47 (rd_L3 l0_3 x50_2) x79_4).f0)] (by rfl) rfl rfl (by (try simp only [List.map_toArray, List.map_cons, List.map_nil]); first | done | rfl | (simp only [List.length_drop, List.length_take]; rfl)) ?_
         with_reducible refine (impl_Checker_isState.calls a0_0 a0_1 _ _ l0_2 _ _ l0_3 _ _ l0_4 _ _ l0_5 ((rd_T47 (rd_L3 l0_3 x50_2) x79_4).f0) true _ ?side1 ?side2 ?side3 ?side4 ?side5 ?side6 ?side7 ?side8 A49.out).mono ?_
         (case side1 => repeat (first | exact (Kd.C_below HR0_2.out HB.out) | (with_reducible refine Kd.C_alloc ?_ _) | (with_reducible refine Kd.C_drewN ?_ _) | (with_reducible refine Kd.C_drew ?_)))
         (case side2 => exact HC0_2.out)
         (case side3 => repeat (first | exact (Kd.C_below HR0_3.out HB.out) | (with_reducible refine Kd.C_alloc ?_ _) | (with_reducible refine Kd.C_drewN ?_ _) | (with_reducible refine Kd.C_drew ?_)))
         (case side4 => exact HC0_3.out)
         (case side5 => repeat (first | exact (Kd.C_below HR0_4.out HB.out) | (with_reducible refine Kd.C_alloc ?_ _) | (with_reducible refine Kd.C_drewN ?_ _) | (with_reducible refine Kd.C_drew ?_)))
         (case side6 => exact HC0_4.out)
         (case side7 => repeat (first | exact (Kd.C_below HR0_5.out HB.out) | (with_reducible refine Kd.C_alloc ?_ _) | (with_reducible refine Kd.C_drewN ?_ _) | (with_reducible refine Kd.C_drew ?_)))
         (case side8 => exact HC0_5.out)
         rintro e w63 ⟨rfl, hb⟩
         refine ⟨_, rfl, ?_⟩
         have n0_ := AZ.mk (bb_ (g := gb473) (o := .cells #[.int .i64 a0_0, .int .i64 a0_1, .slice A0_2 l0_2.length c0_2, .slice (some ad485) l0_3.length c0_3, .slice (some ad490) l0_4.length c0_4, .slice A0_5 l0_5.length c0_5] 27 (0, 0)) (by (with_reducible repeat (first | refine bn_ ?_ _ | refine bd_ ?_ | refine ba_ ?_ _)); exact BK473.out) hb)
         have n1_ := AZ.mk (bb_ (g := gb487) (o := .cells #[.int .i64 ((rd_T47 (rd_L3 l0_3 x50_2) x79_4).f0), .int .i64 ((rd_T47 (rd_L3 l0_3 x50_2) x79_4).f1)] 47 (0, 0)) (by (with_reducible repeat (first | refine bn_ ?_ _ | refine bd_ ?_ | refine ba_ ?_ _)); exact BK487.out) hb)
         have n2_ := AZ.mk (pT (by repeat (first | (with_reducible first | exact HB.out | apply pA | apply pN | apply pD | refine pS ?_ GE473.out | refine pS ?_ GE487.out) | exact HB.out)) hb)
         clear BK473
         clear BK487
         clear HB
         have BK473 := n0_
         have BK487 := n1_
         have HB := n2_
         clear n0_ n1_ n2_
         (try clear hb)
         (try clear hb2)
         (try clear hk)
         (try clear hi)
         refine hK.out _ _ ⟨(bc BK473.out 0).trans rfl, (bc BK473.out 1).trans rfl, (bc BK473.out 2).trans rfl, (bc BK473.out 3).trans rfl, (bc BK473.out 4).trans rfl, (bc BK473.out 5).trans rfl, (bc BK487.out 0).trans rfl, (bc BK487.out 1).trans rfl, ((HB.out.cell (World.block_lt_of_cell? w _ hw490_0)).trans hw490_0), ((HB.out.cell (World.block_lt_of_cell? w _ hw491_0)).trans hw491_0)⟩ (fun hHeld => ?_)
         clear hK K
         refine norm_ (a' := ?_) ?_ ?_
         rotate_left
         ·show Act.put _ (some 93) _ = _
          simp only [Act.put, sA, sB, sC, i64_w, i32_w]
          rfl
         iterate 5 (first | (refine pz_ HT_ impl_ValidChecker.cz1 rfl rfl rfl (v := ?_) (a' := ?_) (by kernel_rfl) (fun _ _ _ h => h) (Or.inl ⟨by rfl, ?_⟩) ?_ ?_; rotate_left; (intro w'; go_simp; with_reducible rfl); rotate_left; (simp only [Act.put, sA, sB, sC, i64_w, i32_w]; rfl)) | (refine tz_ HT_ HW_ impl_ValidChecker.cz1 rfl rfl rfl (v := ?_) (a' := ?_) (by kernel_rfl) (fun _ _ _ h => h) (Or.inl ⟨by rfl, ?_⟩) hHeld ?_ ?_; rotate_left; (rintro w' ⟨s0, s1, s2, s3, s4, s5, s6, s7, s8, s9⟩; go_simp; with_reducible rfl); rotate_left; (simp only [Act.put, sA, sB, sC, i64_w, i32_w]; rfl)))
         refine one_ (i := 9) (N := some 99) (bz 28 1023) rfl rfl (one_of HT_.out (by kernel_rfl)) (by decide) (fun K hK => ?_)
         refine goes_ Try.func106 (by kernel_rfl) rfl #[.agg #[.int .i64 a0_0, .int .i64 a0_1, .slice A0_2 l0_2.length c0_2, .slice (some ad485) l0_3.length c0_3, .slice (some ad490) l0_4.length c0_4, .slice A0_5 l0_5.length c0_5], .int .i64 ((rd_T47 (rd_L3 l0_3 x50_2) x79_4).f1)] (by rfl) rfl rfl (by (try simp only [List.map_toArray, List.map_cons, List.map_nil]); first | done | rfl | (simp only [List.length_drop, List.length_take]; rfl)) ?_
         with_reducible refine (impl_Checker_isMark.calls a0_0 a0_1 _ _ l0_2 _ _ l0_3 _ _ l0_4 _ _ l0_5 ((rd_T47 (rd_L3 l0_3 x50_2) x79_4).f1) true _ ?side1 ?side2 ?side3 ?side4 ?side5 ?side6 ?side7 ?side8 A51.out).mono ?_
         (case side1 => repeat (first | exact (Kd.C_below HR0_2.out HB.out) | (with_reducible refine Kd.C_alloc ?_ _) | (with_reducible refine Kd.C_drewN ?_ _) | (with_reducible refine Kd.C_drew ?_)))
         (case side2 => exact HC0_2.out)
         (case side3 => repeat (first | exact (Kd.C_below HR0_3.out HB.out) | (with_reducible refine Kd.C_alloc ?_ _) | (with_reducible refine Kd.C_drewN ?_ _) | (with_reducible refine Kd.C_drew ?_)))
         (case side4 => exact HC0_3.out)
         (case side5 => repeat (first | exact (Kd.C_below HR0_4.out HB.out) | (with_reducible refine Kd.C_alloc ?_ _) | (with_reducible refine Kd.C_drewN ?_ _) | (with_reducible refine Kd.C_drew ?_)))
         (case side6 => exact HC0_4.out)
         (case side7 => repeat (first | exact (Kd.C_below HR0_5.out HB.out) | (with_reducible refine Kd.C_alloc ?_ _) | (with_reducible refine Kd.C_drewN ?_ _) | (with_reducible refine Kd.C_drew ?_)))
         (case side8 => exact HC0_5.out)
         rintro e w64 ⟨rfl, hb⟩
         refine ⟨_, rfl, ?_⟩
         have n0_ := AZ.mk (bb_ (g := gb473) (o := .cells #[.int .i64 a0_0, .int .i64 a0_1, .slice A0_2 l0_2.length c0_2, .slice (some ad485) l0_3.length c0_3, .slice (some ad490) l0_4.length c0_4, .slice A0_5 l0_5.length c0_5] 27 (0, 0)) (by (with_reducible repeat (first | refine bn_ ?_ _ | refine bd_ ?_ | refine ba_ ?_ _)); exact BK473.out) hb)
         have n1_ := AZ.mk (bb_ (g := gb487) (o := .cells #[.int .i64 ((rd_T47 (rd_L3 l0_3 x50_2) x79_4).f0), .int .i64 ((rd_T47 (rd_L3 l0_3 x50_2) x79_4).f1)] 47 (0, 0)) (by (with_reducible repeat (first | refine bn_ ?_ _ | refine bd_ ?_ | refine ba_ ?_ _)); exact BK487.out) hb)
         have n2_ := AZ.mk (pT (by repeat (first | (with_reducible first | exact HB.out | apply pA | apply pN | apply pD | refine pS ?_ GE473.out | refine pS ?_ GE487.out) | exact HB.out)) hb)
         clear BK473
         clear BK487
         clear HB
         have BK473 := n0_
         have BK487 := n1_
         have HB := n2_
         clear n0_ n1_ n2_
         (try clear hb)
         (try clear hb2)
         (try clear hk)
         (try clear hi)
         refine hK.out _ _ ⟨(bc BK473.out 0).trans rfl, (bc BK473.out 1).trans rfl, (bc BK473.out 2).trans rfl, (bc BK473.out 3).trans rfl, (bc BK473.out 4).trans rfl, (bc BK473.out 5).trans rfl, (bc BK487.out 0).trans rfl, (bc BK487.out 1).trans rfl, ((HB.out.cell (World.block_lt_of_cell? w _ hw490_0)).trans hw490_0), ((HB.out.cell (World.block_lt_of_cell? w _ hw491_0)).trans hw491_0)⟩ (fun hHeld => ?_)
         clear hK K
         refine norm_ (a' := ?_) ?_ ?_
         rotate_left
         ·show Act.put _ (some 99) _ = _
          simp only [Act.put, sA, sB, sC, i64_w, i32_w]
          rfl
         iterate 15 (first | (refine pz_ HT_ impl_ValidChecker.cz2 rfl rfl rfl (v := ?_) (a' := ?_) (by kernel_rfl) (fun _ _ _ h => h) (Or.inl ⟨by rfl, ?_⟩) ?_ ?_; rotate_left; (intro w'; go_simp; with_reducible rfl); rotate_left; (simp only [Act.put, sA, sB, sC, i64_w, i32_w]; rfl)) | (refine tz_ HT_ HW_ impl_ValidChecker.cz2 rfl rfl rfl (v := ?_) (a' := ?_) (by kernel_rfl) (fun _ _ _ h => h) (Or.inl ⟨by rfl, ?_⟩) hHeld ?_ ?_; rotate_left; (rintro w' ⟨s0, s1, s2, s3, s4, s5, s6, s7, s8, s9⟩; go_simp; with_reducible rfl); rotate_left; (simp only [Act.put, sA, sB, sC, i64_w, i32_w]; rfl)))
         refine one_ (i := 25) (N := some 115) (bz 28 67108863) rfl rfl (one_of HT_.out (by kernel_rfl)) (by decide) (fun K hK => ?_)
         refine goesV_ Try.func102 (by kernel_rfl) rfl #[.slice A491_0 (rd_L4 (rd_L5 l0_4 x50_2) x79_4).length c491_0, .int .i64 (wrap64 (a0_0 + 1))] #[.slice A491_0 (rd_L4 (rd_L5 l0_4 x50_2) x79_4).length c491_0, .int .i64 (wrap64 (a0_0 + 1)), .pointer (some ⟨gb473, 0, none⟩)] (by rfl) rfl rfl (by rfl) (by (try simp only [List.map_toArray, List.map_cons, List.map_nil]); first | done | rfl | (simp only [List.length_drop, List.length_take]; rfl)) (by rfl) ?_
         with_reducible refine (impl_ValidChecker_1_c.calls k4 _ _ (rd_L4 (rd_L5 l0_4 x50_2) x79_4) (wrap64 (a0_0 + 1)) gb473 a0_0 a0_1 A0_2 c0_2 l0_2 (some ad485) c0_3 l0_3 (some ad490) c0_4 l0_4 A0_5 c0_5 l0_5 true _ ?side1 ?side2 ?side3 ?side4 ?side5 ?side6 ?side7 ?side8 ?side9 ?side10 ?side11 A55.out).mono ?_
         (case side1 => repeat (first | exact (Kd.C_below HR491_0.out HB.out) | (with_reducible refine Kd.C_alloc ?_ _) | (with_reducible refine Kd.C_drewN ?_ _) | (with_reducible refine Kd.C_drew ?_)))
         (case side2 => exact HC491_0.out)
         (case side3 => repeat (first | exact (Kd.C_below HR0_2.out HB.out) | (with_reducible refine Kd.C_alloc ?_ _) | (with_reducible refine Kd.C_drewN ?_ _) | (with_reducible refine Kd.C_drew ?_)))
         (case side4 => exact HC0_2.out)
         (case side5 => repeat (first | exact (Kd.C_below HR0_3.out HB.out) | (with_reducible refine Kd.C_alloc ?_ _) | (with_reducible refine Kd.C_drewN ?_ _) | (with_reducible refine Kd.C_drew ?_)))
         (case side6 => exact HC0_3.out)
         (case side7 => repeat (first | exact (Kd.C_below HR0_4.out HB.out) | (with_reducible refine Kd.C_alloc ?_ _) | (with_reducible refine Kd.C_drewN ?_ _) | (with_reducible refine Kd.C_drew ?_)))
         (case side8 => exact HC0_4.out)
         (case side9 => repeat (first | exact (Kd.C_below HR0_5.out HB.out) | (with_reducible refine Kd.C_alloc ?_ _) | (with_reducible refine Kd.C_drewN ?_ _) | (with_reducible refine Kd.C_drew ?_)))
         (case side10 => exact HC0_5.out)
         (case side11 => exact (by (with_reducible repeat (first | refine bn_ ?_ _ | refine bd_ ?_ | refine ba_ ?_ _)); exact BK473.out))
         rintro e w65 ⟨rfl, hb⟩
         refine ⟨_, rfl, ?_⟩
         have n0_ := AZ.mk (bb_ (g := gb473) (o := .cells #[.int .i64 a0_0, .int .i64 a0_1, .slice A0_2 l0_2.length c0_2, .slice (some ad485) l0_3.length c0_3, .slice (some ad490) l0_4.length c0_4, .slice A0_5 l0_5.length c0_5] 27 (0, 0)) (by (with_reducible repeat (first | refine bn_ ?_ _ | refine bd_ ?_ | refine ba_ ?_ _)); exact BK473.out) hb)
         have n1_ := AZ.mk (bb_ (g := gb487) (o := .cells #[.int .i64 ((rd_T47 (rd_L3 l0_3 x50_2) x79_4).f0), .int .i64 ((rd_T47 (rd_L3 l0_3 x50_2) x79_4).f1)] 47 (0, 0)) (by (with_reducible repeat (first | refine bn_ ?_ _ | refine bd_ ?_ | refine ba_ ?_ _)); exact BK487.out) hb)
         have n2_ := AZ.mk (pT (by repeat (first | (with_reducible first | exact HB.out | apply pA | apply pN | apply pD | refine pS ?_ GE473.out | refine pS ?_ GE487.out) | exact HB.out)) hb)
         clear BK473
         clear BK487
         clear HB
         have BK473 := n0_
         have BK487 := n1_
         have HB := n2_
         clear n0_ n1_ n2_
         (try clear hb)
         (try clear hb2)
         (try clear hk)
         (try clear hi)
         refine hK.out _ _ ⟨(bc BK473.out 0).trans rfl, (bc BK473.out 1).trans rfl, (bc BK473.out 2).trans rfl, (bc BK473.out 3).trans rfl, (bc BK473.out 4).trans rfl, (bc BK473.out 5).trans rfl, (bc BK487.out 0).trans rfl, (bc BK487.out 1).trans rfl, ((HB.out.cell (World.block_lt_of_cell? w _ hw490_0)).trans hw490_0), ((HB.out.cell (World.block_lt_of_cell? w _ hw491_0)).trans hw491_0)⟩ (fun hHeld => ?_)
         clear hK K
         refine norm_ (a' := ?_) ?_ ?_
         rotate_left
         ·show Act.put _ (some 115) _ = _
          simp only [Act.put, sA, sB, sC, i64_w, i32_w]
          rfl
         iterate 2 (first | (refine pz_ HT_ impl_ValidChecker.cz3 rfl rfl rfl (v := ?_) (a' := ?_) (by kernel_rfl) (fun _ _ _ h => h) (Or.inl ⟨by rfl, ?_⟩) ?_ ?_; rotate_left; (intro w'; go_simp; with_reducible rfl); rotate_left; (simp only [Act.put, sA, sB, sC, i64_w, i32_w]; rfl)))
         refine done_ (done_of HT_.out (by kernel_rfl)) ?_
         try go_wp2
         go_roundg k4
         case measure => have := HJ2.out; have := HK2.out; have := HJ30.out; have := HK4.out; omega
         case rel => exact ⟨(wrap64 (x79_4 + 1)), (by first | rfl | (simp; done) | (simp [*]; done)), H', ⟨by have := HJ2.out; have := HK2.out; have := HJ30.out; have := HK4.out; omega⟩, ⟨by (with_reducible repeat (first | refine bn_ ?_ _ | refine bd_ ?_ | refine ba_ ?_ _)); exact BK473.out⟩, ⟨by repeat (first | (with_reducible first | exact HB.out | apply pA | apply pN | apply pD | refine pS ?_ GE473.out | refine pS ?_ GE487.out) | exact HB.out)⟩⟩
end Go.Proofs.Ytepkfigcnnfoaaa.P
namespace Go.Proofs.Ytepkfigcnnfoaaa.P
open Go.RowKit Go.Proofs.YtepkfigcnnfoaaaW.PrintWords Go.Proofs.YtepkfigcnnfoaaaW.PrintLast Go.Proofs.YtepkfigcnnfoaaaW.PrintMore
attribute [local go_sem] max2_int min2_int max_two min_two max_three min_three max_four min_four
set_option linter.unusedVariables false
set_option linter.unusedSimpArgs false
def impl_OppositeChecker_1_c.f (a0 : Int) (a1_0 : Int) (a1_1 : Int) (l1_2 : List Bool) (l1_3 : List (List (S47))) (l1_4 : List (List (List Int))) (l1_5 : List (List Int)) : Option (Bool) := if 0 ≤ a0 then (if a0 < (l1_2.length : Int) then (some (!(rdOf false l1_2 a0))) else (none)) else (none)
set_option maxHeartbeats 8000000 in
set_option maxRecDepth 100000 in
theorem impl_OppositeChecker_1_c.calls (a0 : Int) (g1_ : Nat) (a1_0 : Int) (a1_1 : Int) (A1_2 : Option Addr) (c1_2 : Nat) (l1_2 : List Bool) (A1_3 : Option Addr) (c1_3 : Nat) (l1_3 : List (List (S47))) (A1_4 : Option Addr) (c1_4 : Nat) (l1_4 : List (List (List Int))) (A1_5 : Option Addr) (c1_5 : Nat) (l1_5 : List (List Int)) (r : Bool) (w : World) (hr1_2 : Kd.C Kd.bool w A1_2 l1_2.length l1_2) (hc1_2 : l1_2.length ≤ c1_2) (hr1_3 : Kd.C (Kd.slice 47 k47) w A1_3 l1_3.length l1_3) (hc1_3 : l1_3.length ≤ c1_3) (hr1_4 : Kd.C (Kd.slice 49 (Kd.slice 2 (Kd.int .i64))) w A1_4 l1_4.length l1_4) (hc1_4 : l1_4.length ≤ c1_4) (hr1_5 : Kd.C (Kd.slice 2 (Kd.int .i64)) w A1_5 l1_5.length l1_5) (hc1_5 : l1_5.length ≤ c1_5) (hbk1_0 : w.heap[g1_]? = some (.cells #[.int .i64 a1_0, .int .i64 a1_1, .slice A1_2 l1_2.length c1_2, .slice A1_3 l1_3.length c1_3, .slice A1_4 l1_4.length c1_4, .slice A1_5 l1_5.length c1_5] 27 (0, 0))) (h : impl_OppositeChecker_1_c.f a0 a1_0 a1_1 l1_2 l1_3 l1_4 l1_5 = some r) :
  Calls Try.prog 78 #[.int .i64 a0, .pointer (some ⟨g1_, 0, none⟩)] w fun e w' => e = .returned (.bool r) ∧ Drawn0 w w' := by
 have HR1_2 := AZ.mk hr1_2
 have HC1_2 := AZ.mk hc1_2
 clear hr1_2 hc1_2
 have HR1_3 := AZ.mk hr1_3
 have HC1_3 := AZ.mk hc1_3
 clear hr1_3 hc1_3
 have HR1_4 := AZ.mk hr1_4
 have HC1_4 := AZ.mk hc1_4
 clear hr1_4 hc1_4
 have HR1_5 := AZ.mk hr1_5
 have HC1_5 := AZ.mk hc1_5
 clear hr1_5 hc1_5
 have BK1 := AZ.mk hbk1_0
 clear hbk1_0
 have H : (if 0 ≤ a0 then (if a0 < (l1_2.length : Int) then (some (!(rdOf false l1_2 a0))) else (none)) else (none)) = some r := h
 clear h
 by_cases c3 : 0 ≤ a0
 rotate_left
 ·rw [if_neg c3] at H
  exact absurd H (by simp)
 rw [if_pos c3] at H
 have c3b0 : decide (0 ≤ a0) = true := decide_eq_true c3
 clear c3
 by_cases c4 : a0 < (l1_2.length : Int)
 rotate_left
 ·rw [if_neg c4] at H
  exact absurd H (by simp)
 rw [if_pos c4] at H
 have c4b0 : decide (a0 < (l1_2.length : Int)) = true := decide_eq_true c4
 clear c4
 obtain rfl := Option.some.inj H
 obtain ⟨hcz5_0, hcz5_1, hcz5_2, hcz5_3, hcz5_4, hcz5_5⟩ := c6 BK1.out
 obtain ⟨hfz5_0, hfz5_1, hfz5_2, hfz5_3, hfz5_4, hfz5_5⟩ := f6 BK1.out
 have p510 : 0 ≤ (a0 : Int) := oT (by first | (with_reducible assumption) | assumption)
 have q510 : a0 < (l1_2.length : Int) := oT (by first | (with_reducible assumption) | assumption)
 obtain ⟨ad510, e510, hx510_0⟩ := Kd.at_bool HR1_2.out a0 p510 q510
 cases e510
 replace p510 := eq_true p510
 replace q510 := eq_true q510
 go_enter Try.func78, Try.ntmps78
 go_wp2
 go_ret
 exact ⟨by first | rfl | (simp; done) | (simp [*]; done), by repeat (first | exact Drawn0.refl _ | apply Drawn0.step)⟩
end Go.Proofs.Ytepkfigcnnfoaaa.P
namespace Go.Proofs.Ytepkfigcnnfoaaa.P
open Go.RowKit Go.Proofs.YtepkfigcnnfoaaaW.PrintWords Go.Proofs.YtepkfigcnnfoaaaW.PrintLast Go.Proofs.YtepkfigcnnfoaaaW.PrintMore
attribute [local go_sem] max2_int min2_int max_two min_two max_three min_three max_four min_four
set_option linter.unusedVariables false
set_option linter.unusedSimpArgs false
def impl_Checker_accepting_2_c.f (a0 : Int) (a1 : Int) (a2 : Int) (a3_0 : Int) (a3_1 : Int) (l3_2 : List Bool) (l3_3 : List (List (S47))) (l3_4 : List (List (List Int))) (l3_5 : List (List Int)) : Option (Int) := if 0 ≤ a0 then (if a0 < (l3_4.length : Int) then (if 0 ≤ a1 then (if a1 < ((rd_L5 l3_4 a0).length : Int) then (if 0 ≤ a2 then (if a2 < ((rd_L4 (rd_L5 l3_4 a0) a1).length : Int) then (some (rd (rd_L4 (rd_L5 l3_4 a0) a1) a2)) else (none)) else (none)) else (none)) else (none)) else (none)) else (none)
set_option maxHeartbeats 8000000 in
set_option maxRecDepth 100000 in
theorem impl_Checker_accepting_2_c.calls (a0 : Int) (a1 : Int) (a2 : Int) (g3_ : Nat) (a3_0 : Int) (a3_1 : Int) (A3_2 : Option Addr) (c3_2 : Nat) (l3_2 : List Bool) (A3_3 : Option Addr) (c3_3 : Nat) (l3_3 : List (List (S47))) (A3_4 : Option Addr) (c3_4 : Nat) (l3_4 : List (List (List Int))) (A3_5 : Option Addr) (c3_5 : Nat) (l3_5 : List (List Int)) (r : Int) (w : World) (hr3_2 : Kd.C Kd.bool w A3_2 l3_2.length l3_2) (hc3_2 : l3_2.length ≤ c3_2) (hr3_3 : Kd.C (Kd.slice 47 k47) w A3_3 l3_3.length l3_3) (hc3_3 : l3_3.length ≤ c3_3) (hr3_4 : Kd.C (Kd.slice 49 (Kd.slice 2 (Kd.int .i64))) w A3_4 l3_4.length l3_4) (hc3_4 : l3_4.length ≤ c3_4) (hr3_5 : Kd.C (Kd.slice 2 (Kd.int .i64)) w A3_5 l3_5.length l3_5) (hc3_5 : l3_5.length ≤ c3_5) (hbk3_0 : w.heap[g3_]? = some (.cells #[.int .i64 a3_0, .int .i64 a3_1, .slice A3_2 l3_2.length c3_2, .slice A3_3 l3_3.length c3_3, .slice A3_4 l3_4.length c3_4, .slice A3_5 l3_5.length c3_5] 27 (0, 0))) (h : impl_Checker_accepting_2_c.f a0 a1 a2 a3_0 a3_1 l3_2 l3_3 l3_4 l3_5 = some r) :
  Calls Try.prog 108 #[.int .i64 a0, .int .i64 a1, .int .i64 a2, .pointer (some ⟨g3_, 0, none⟩)] w fun e w' => e = .returned (.int .i64 r) ∧ Drawn0 w w' := by
 have HR3_2 := AZ.mk hr3_2
 have HC3_2 := AZ.mk hc3_2
 clear hr3_2 hc3_2
 have HR3_3 := AZ.mk hr3_3
 have HC3_3 := AZ.mk hc3_3
 clear hr3_3 hc3_3
 have HR3_4 := AZ.mk hr3_4
 have HC3_4 := AZ.mk hc3_4
 clear hr3_4 hc3_4
 have HR3_5 := AZ.mk hr3_5
 have HC3_5 := AZ.mk hc3_5
 clear hr3_5 hc3_5
 have BK3 := AZ.mk hbk3_0
 clear hbk3_0
 have H : (if 0 ≤ a0 then (if a0 < (l3_4.length : Int) then (if 0 ≤ a1 then (if a1 < ((rd_L5 l3_4 a0).length : Int) then (if 0 ≤ a2 then (if a2 < ((rd_L4 (rd_L5 l3_4 a0) a1).length : Int) then (some (rd (rd_L4 (rd_L5 l3_4 a0) a1) a2)) else (none)) else (none)) else (none)) else (none)) else (none)) else (none)) = some r := h
 clear h
 by_cases c5 : 0 ≤ a0
 rotate_left
 ·rw [if_neg c5] at H
  exact absurd H (by simp)
 rw [if_pos c5] at H
 have c5b0 : decide (0 ≤ a0) = true := decide_eq_true c5
 clear c5
 by_cases c6 : a0 < (l3_4.length : Int)
 rotate_left
 ·rw [if_neg c6] at H
  exact absurd H (by simp)
 rw [if_pos c6] at H
 have c6b0 : decide (a0 < (l3_4.length : Int)) = true := decide_eq_true c6
 clear c6
 by_cases c7 : 0 ≤ a1
 rotate_left
 ·rw [if_neg c7] at H
  exact absurd H (by simp)
 rw [if_pos c7] at H
 have c7b0 : decide (0 ≤ a1) = true := decide_eq_true c7
 clear c7
 by_cases c8 : a1 < ((rd_L5 l3_4 a0).length : Int)
 rotate_left
 ·rw [if_neg c8] at H
  exact absurd H (by simp)
 rw [if_pos c8] at H
 have c8b0 : decide (a1 < ((rd_L5 l3_4 a0).length : Int)) = true := decide_eq_true c8
 clear c8
 by_cases c9 : 0 ≤ a2
 rotate_left
 ·rw [if_neg c9] at H
  exact absurd H (by simp)
 rw [if_pos c9] at H
 have c9b0 : decide (0 ≤ a2) = true := decide_eq_true c9
 clear c9
 by_cases c10 : a2 < ((rd_L4 (rd_L5 l3_4 a0) a1).length : Int)
 rotate_left
 ·rw [if_neg c10] at H
  exact absurd H (by simp)
 rw [if_pos c10] at H
 have c10b0 : decide (a2 < ((rd_L4 (rd_L5 l3_4 a0) a1).length : Int)) = true := decide_eq_true c10
 clear c10
 obtain rfl := Option.some.inj H
 obtain ⟨hcz11_0, hcz11_1, hcz11_2, hcz11_3, hcz11_4, hcz11_5⟩ := c6 BK3.out
 obtain ⟨hfz11_0, hfz11_1, hfz11_2, hfz11_3, hfz11_4, hfz11_5⟩ := f6 BK3.out
 have p526 : 0 ≤ (a0 : Int) := oT (by first | (with_reducible assumption) | assumption)
 have q526 : a0 < (l3_4.length : Int) := oT (by first | (with_reducible assumption) | assumption)
 obtain ⟨ad526, A526_0, c526_0, e526, hx526_0, hl526_0, hi526_0⟩ := at_L5 HR3_4.out a0 p526 q526
 cases e526
 have HR526_0 := AZ.mk hi526_0
 have HC526_0 := AZ.mk hl526_0
 clear hi526_0 hl526_0
 replace p526 := eq_true p526
 replace q526 := eq_true q526
 have p527 : 0 ≤ (a1 : Int) := oT (by first | (with_reducible assumption) | assumption)
 have q527 : a1 < ((rd_L5 l3_4 a0).length : Int) := oT (by first | (with_reducible assumption) | assumption)
 obtain ⟨ad527, A527_0, c527_0, e527, hx527_0, hl527_0, hi527_0⟩ := at_L4 HR526_0.out a1 p527 q527
 cases e527
 have HR527_0 := AZ.mk hi527_0
 have HC527_0 := AZ.mk hl527_0
 clear hi527_0 hl527_0
 replace p527 := eq_true p527
 replace q527 := eq_true q527
 have p528 : 0 ≤ (a2 : Int) := oT (by first | (with_reducible assumption) | assumption)
 have q528 : a2 < ((rd_L4 (rd_L5 l3_4 a0) a1).length : Int) := oT (by first | (with_reducible assumption) | assumption)
 obtain ⟨ad528, e528, hx528_0⟩ := Kd.at_int HR527_0.out a2 p528 q528
 cases e528
 replace p528 := eq_true p528
 replace q528 := eq_true q528
 go_enter Try.func108, Try.ntmps108
 go_wp2
 go_ret
 exact ⟨by first | rfl | (simp; done) | (simp [*]; done), by repeat (first | exact Drawn0.refl _ | apply Drawn0.step)⟩
end Go.Proofs.Ytepkfigcnnfoaaa.P
namespace Go.Proofs.Ytepkfigcnnfoaaa.P
open Go.RowKit Go.Proofs.YtepkfigcnnfoaaaW.PrintWords Go.Proofs.YtepkfigcnnfoaaaW.PrintLast Go.Proofs.YtepkfigcnnfoaaaW.PrintMore
attribute [local go_sem] max2_int min2_int max_two min_two max_three min_three max_four min_four
set_option linter.unusedVariables false
set_option linter.unusedSimpArgs false
def impl_Checker_accepting_1_c.f (a0 : Int) (a1 : Int) (a2_0 : Int) (a2_1 : Int) (l2_2 : List Bool) (l2_3 : List (List (S47))) (l2_4 : List (List (List Int))) (l2_5 : List (List Int)) : Option (Int × Int) := if 0 ≤ a0 then (if a0 < (l2_3.length : Int) then (if 0 ≤ a1 then (if a1 < ((rd_L3 l2_3 a0).length : Int) then (some ((rd_T47 (rd_L3 l2_3 a0) a1).f0, (rd_T47 (rd_L3 l2_3 a0) a1).f1)) else (none)) else (none)) else (none)) else (none)
set_option maxHeartbeats 8000000 in
set_option maxRecDepth 100000 in
theorem impl_Checker_accepting_1_c.calls (a0 : Int) (a1 : Int) (g2_ : Nat) (a2_0 : Int) (a2_1 : Int) (A2_2 : Option Addr) (c2_2 : Nat) (l2_2 : List Bool) (A2_3 : Option Addr) (c2_3 : Nat) (l2_3 : List (List (S47))) (A2_4 : Option Addr) (c2_4 : Nat) (l2_4 : List (List (List Int))) (A2_5 : Option Addr) (c2_5 : Nat) (l2_5 : List (List Int)) (r1 : Int) (r2 : Int) (w : World) (hr2_2 : Kd.C Kd.bool w A2_2 l2_2.length l2_2) (hc2_2 : l2_2.length ≤ c2_2) (hr2_3 : Kd.C (Kd.slice 47 k47) w A2_3 l2_3.length l2_3) (hc2_3 : l2_3.length ≤ c2_3) (hr2_4 : Kd.C (Kd.slice 49 (Kd.slice 2 (Kd.int .i64))) w A2_4 l2_4.length l2_4) (hc2_4 : l2_4.length ≤ c2_4) (hr2_5 : Kd.C (Kd.slice 2 (Kd.int .i64)) w A2_5 l2_5.length l2_5) (hc2_5 : l2_5.length ≤ c2_5) (hbk2_0 : w.heap[g2_]? = some (.cells #[.int .i64 a2_0, .int .i64 a2_1, .slice A2_2 l2_2.length c2_2, .slice A2_3 l2_3.length c2_3, .slice A2_4 l2_4.length c2_4, .slice A2_5 l2_5.length c2_5] 27 (0, 0))) (h : impl_Checker_accepting_1_c.f a0 a1 a2_0 a2_1 l2_2 l2_3 l2_4 l2_5 = some (r1, r2)) :
  Calls Try.prog 107 #[.int .i64 a0, .int .i64 a1, .pointer (some ⟨g2_, 0, none⟩)] w fun e w' => e = .returned (.agg #[.int .i64 r1, .int .i64 r2]) ∧ Below w.heap.size w w' := by
 have hu47 := Try.underlying47
 have HR2_2 := AZ.mk hr2_2
 have HC2_2 := AZ.mk hc2_2
 clear hr2_2 hc2_2
 have HR2_3 := AZ.mk hr2_3
 have HC2_3 := AZ.mk hc2_3
 clear hr2_3 hc2_3
 have HR2_4 := AZ.mk hr2_4
 have HC2_4 := AZ.mk hc2_4
 clear hr2_4 hc2_4
 have HR2_5 := AZ.mk hr2_5
 have HC2_5 := AZ.mk hc2_5
 clear hr2_5 hc2_5
 have BK2 := AZ.mk hbk2_0
 clear hbk2_0
 have HB := AZ.mk (Below.refl w.heap.size w)
 have H : (if 0 ≤ a0 then (if a0 < (l2_3.length : Int) then (if 0 ≤ a1 then (if a1 < ((rd_L3 l2_3 a0).length : Int) then (some ((rd_T47 (rd_L3 l2_3 a0) a1).f0, (rd_T47 (rd_L3 l2_3 a0) a1).f1)) else (none)) else (none)) else (none)) else (none)) = some (r1, r2) := h
 clear h
 by_cases c4 : 0 ≤ a0
 rotate_left
 ·rw [if_neg c4] at H
  exact absurd H (by simp)
 rw [if_pos c4] at H
 have c4b0 : decide (0 ≤ a0) = true := decide_eq_true c4
 clear c4
 by_cases c5 : a0 < (l2_3.length : Int)
 rotate_left
 ·rw [if_neg c5] at H
  exact absurd H (by simp)
 rw [if_pos c5] at H
 have c5b0 : decide (a0 < (l2_3.length : Int)) = true := decide_eq_true c5
 clear c5
 by_cases c6 : 0 ≤ a1
 rotate_left
 ·rw [if_neg c6] at H
  exact absurd H (by simp)
 rw [if_pos c6] at H
 have c6b0 : decide (0 ≤ a1) = true := decide_eq_true c6
 clear c6
 by_cases c7 : a1 < ((rd_L3 l2_3 a0).length : Int)
 rotate_left
 ·rw [if_neg c7] at H
  exact absurd H (by simp)
 rw [if_pos c7] at H
 have c7b0 : decide (a1 < ((rd_L3 l2_3 a0).length : Int)) = true := decide_eq_true c7
 clear c7
 simp only [Option.some.injEq, Prod.mk.injEq] at H
 obtain ⟨rfl, rfl⟩ := H
 go_enter Try.func107, Try.ntmps107
 go_wp2_with (first | ((with_reducible refine gate_dst (N := 5) rfl ?_); refine box_event ?hg (N := 5) ?hd (cs := #[.int .i64 0, .int .i64 0]) (t := 47) ?hr ?_; (case hd => rfl); (case hg => rfl); (case hr => first | (go_simp; done) | (go_simp; rfl)); intro gb530 hg w8 hbox hb; have n0_ := AZ.mk (bb_ (g := g2_) (o := .cells #[.int .i64 a2_0, .int .i64 a2_1, .slice A2_2 l2_2.length c2_2, .slice A2_3 l2_3.length c2_3, .slice A2_4 l2_4.length c2_4, .slice A2_5 l2_5.length c2_5] 27 (0, 0)) (by (with_reducible repeat (first | refine bn_ ?_ _ | refine bd_ ?_ | refine ba_ ?_ _)); exact BK2.out) hb); have n1_ := AZ.mk (pT (by repeat (first | (with_reducible first | exact HB.out | apply pA | apply pN | apply pD | refine pS ?_ GE2.out) | exact HB.out)) hb); have n2_ := AZ.mk (hbox); have n3_ := AZ.mk ((by rw [hg]; exact (pZ (by repeat (first | (with_reducible first | exact HB.out | apply pA | apply pN | apply pD | refine pS ?_ GE2.out) | exact HB.out))) : w.heap.size ≤ gb530)); have n4_ := AZ.mk ((by rw [hg]; exact (pZ (by repeat (first | (with_reducible first | exact HB.out | apply pA | apply pN | apply pD | refine pS ?_ GE2.out) | exact HB.out))) : w.heap.size ≤ gb530)); have n5_ := AZ.mk ((by rw [hg]; exact Nat.ne_of_lt (blk_lt (g := g2_) (o := .cells #[.int .i64 a2_0, .int .i64 a2_1, .slice A2_2 l2_2.length c2_2, .slice A2_3 l2_3.length c2_3, .slice A2_4 l2_4.length c2_4, .slice A2_5 l2_5.length c2_5] 27 (0, 0)) (by (with_reducible repeat (first | refine bn_ ?_ _ | refine bd_ ?_ | refine ba_ ?_ _)); exact BK2.out)) : g2_ ≠ gb530)); have n6_ := AZ.mk ((by rw [hg]; exact Nat.ne_of_gt (blk_lt (g := g2_) (o := .cells #[.int .i64 a2_0, .int .i64 a2_1, .slice A2_2 l2_2.length c2_2, .slice A2_3 l2_3.length c2_3, .slice A2_4 l2_4.length c2_4, .slice A2_5 l2_5.length c2_5] 27 (0, 0)) (by (with_reducible repeat (first | refine bn_ ?_ _ | refine bd_ ?_ | refine ba_ ?_ _)); exact BK2.out)) : gb530 ≠ g2_)); clear BK2; clear HB; have BK2 := n0_; have HB := n1_; have BK530 := n2_; have GW530 := n3_; have GE530 := n4_; have NB2_530 := n5_; have NB530_2 := n6_; clear n0_ n1_ n2_ n3_ n4_ n5_ n6_; clear hb hbox hg; have hnb9 := NB2_530.out; have hnc9 := NB530_2.out; obtain ⟨hcz10_0, hcz10_1, hcz10_2, hcz10_3, hcz10_4, hcz10_5⟩ := c6 BK2.out; obtain ⟨hfz10_0, hfz10_1, hfz10_2, hfz10_3, hfz10_4, hfz10_5⟩ := f6 BK2.out; have p531 : 0 ≤ (a0 : Int) := oT (by first | (with_reducible assumption) | assumption); have q531 : a0 < (l2_3.length : Int) := oT (by first | (with_reducible assumption) | assumption); obtain ⟨ad531, A531_0, c531_0, e531, hx531_0, hl531_0, hi531_0⟩ := at_L3 HR2_3.out a0 p531 q531; cases e531; replace hx531_0 := (HB.out.cell (World.block_lt_of_cell? w _ hx531_0)).trans hx531_0; have HR531_0 := AZ.mk hi531_0; have HC531_0 := AZ.mk hl531_0; clear hi531_0 hl531_0; replace p531 := eq_true p531; replace q531 := eq_true q531; have p532 : 0 ≤ (a1 : Int) := oT (by first | (with_reducible assumption) | assumption); have q532 : a1 < ((rd_L3 l2_3 a0).length : Int) := oT (by first | (with_reducible assumption) | assumption); obtain ⟨ad532, e532, hx532_0, hx532_1⟩ := at_T47 HR531_0.out a1 p532 q532; cases e532; replace hx532_0 := (HB.out.cell (World.block_lt_of_cell? w _ hx532_0)).trans hx532_0; replace hx532_1 := (HB.out.cell (World.block_lt_of_cell? w _ hx532_1)).trans hx532_1; replace p532 := eq_true p532; replace q532 := eq_true q532; have hcz11_0 : w8.cell? ⟨gb530, 0, none⟩ = some (.int .i64 0) := (bc BK530.out 0).trans rfl; have hcz11_1 : w8.cell? ⟨gb530, 1, none⟩ = some (.int .i64 0) := (bc BK530.out 1).trans rfl; have hfz11_0 := bf BK530.out 0; have hfz11_1 := bf BK530.out 1))
 refine bodyPost_ret (results_cell_row rfl _ _ gb530 47 #[.int .i64 ((rd_T47 (rd_L3 l2_3 a0) a1).f0), .int .i64 ((rd_T47 (rd_L3 l2_3 a0) a1).f1)] (0, 0) _ rfl (by (with_reducible repeat (first | refine bn_ ?_ _ | refine bd_ ?_ | refine ba_ ?_ _)); refine blk_put (cs := #[.int .i64 ((rd_T47 (rd_L3 l2_3 a0) a1).f0), .int .i64 0]) ?_ 1 _ rfl; (with_reducible repeat (first | refine bn_ ?_ _ | refine bd_ ?_ | refine ba_ ?_ _)); refine blk_put (cs := #[.int .i64 0, .int .i64 0]) ?_ 0 _ rfl; (with_reducible repeat (first | refine bn_ ?_ _ | refine bd_ ?_ | refine ba_ ?_ _)); exact BK530.out) Try.underlying47 rfl (by kernel_rfl)) rfl ?_
 exact ⟨by first | rfl | (simp [errW_none, errW_some] <;> rfl) | (simp [*, errW_none, errW_some] <;> rfl), by repeat (first | (with_reducible first | exact HB.out | apply pA | apply pN | apply pD | refine pS ?_ GE2.out | refine pS ?_ GE530.out) | exact HB.out)⟩
end Go.Proofs.Ytepkfigcnnfoaaa.P
namespace Go.Proofs.Ytepkfigcnnfoaaa.P
open Go.RowKit Go.Proofs.YtepkfigcnnfoaaaW.PrintWords Go.Proofs.YtepkfigcnnfoaaaW.PrintLast Go.Proofs.YtepkfigcnnfoaaaW.PrintMore
attribute [local go_sem] max2_int min2_int max_two min_two max_three min_three max_four min_four
set_option linter.unusedVariables false
set_option linter.unusedSimpArgs false
def impl_Checker_accepting_3_c.f (a0 : Int) (a1 : Int) (a2_0 : Int) (a2_1 : Int) (l2_2 : List Bool) (l2_3 : List (List (S47))) (l2_4 : List (List (List Int))) (l2_5 : List (List Int)) : Option (Int) := if 0 ≤ a0 then (if a0 < (l2_5.length : Int) then (if 0 ≤ a1 then (if a1 < ((rd_L4 l2_5 a0).length : Int) then (some (rd (rd_L4 l2_5 a0) a1)) else (none)) else (none)) else (none)) else (none)
set_option maxHeartbeats 8000000 in
set_option maxRecDepth 100000 in
theorem impl_Checker_accepting_3_c.calls (a0 : Int) (a1 : Int) (g2_ : Nat) (a2_0 : Int) (a2_1 : Int) (A2_2 : Option Addr) (c2_2 : Nat) (l2_2 : List Bool) (A2_3 : Option Addr) (c2_3 : Nat) (l2_3 : List (List (S47))) (A2_4 : Option Addr) (c2_4 : Nat) (l2_4 : List (List (List Int))) (A2_5 : Option Addr) (c2_5 : Nat) (l2_5 : List (List Int)) (r : Int) (w : World) (hr2_2 : Kd.C Kd.bool w A2_2 l2_2.length l2_2) (hc2_2 : l2_2.length ≤ c2_2) (hr2_3 : Kd.C (Kd.slice 47 k47) w A2_3 l2_3.length l2_3) (hc2_3 : l2_3.length ≤ c2_3) (hr2_4 : Kd.C (Kd.slice 49 (Kd.slice 2 (Kd.int .i64))) w A2_4 l2_4.length l2_4) (hc2_4 : l2_4.length ≤ c2_4) (hr2_5 : Kd.C (Kd.slice 2 (Kd.int .i64)) w A2_5 l2_5.length l2_5) (hc2_5 : l2_5.length ≤ c2_5) (hbk2_0 : w.heap[g2_]? = some (.cells #[.int .i64 a2_0, .int .i64 a2_1, .slice A2_2 l2_2.length c2_2, .slice A2_3 l2_3.length c2_3, .slice A2_4 l2_4.length c2_4, .slice A2_5 l2_5.length c2_5] 27 (0, 0))) (h : impl_Checker_accepting_3_c.f a0 a1 a2_0 a2_1 l2_2 l2_3 l2_4 l2_5 = some r) :
  Calls Try.prog 109 #[.int .i64 a0, .int .i64 a1, .pointer (some ⟨g2_, 0, none⟩)] w fun e w' => e = .returned (.int .i64 r) ∧ Drawn0 w w' := by
 have HR2_2 := AZ.mk hr2_2
 have HC2_2 := AZ.mk hc2_2
 clear hr2_2 hc2_2
 have HR2_3 := AZ.mk hr2_3
 have HC2_3 := AZ.mk hc2_3
 clear hr2_3 hc2_3
 have HR2_4 := AZ.mk hr2_4
 have HC2_4 := AZ.mk hc2_4
 clear hr2_4 hc2_4
 have HR2_5 := AZ.mk hr2_5
 have HC2_5 := AZ.mk hc2_5
 clear hr2_5 hc2_5
 have BK2 := AZ.mk hbk2_0
 clear hbk2_0
 have H : (if 0 ≤ a0 then (if a0 < (l2_5.length : Int) then (if 0 ≤ a1 then (if a1 < ((rd_L4 l2_5 a0).length : Int) then (some (rd (rd_L4 l2_5 a0) a1)) else (none)) else (none)) else (none)) else (none)) = some r := h
 clear h
 by_cases c4 : 0 ≤ a0
 rotate_left
 ·rw [if_neg c4] at H
  exact absurd H (by simp)
 rw [if_pos c4] at H
 have c4b0 : decide (0 ≤ a0) = true := decide_eq_true c4
 clear c4
 by_cases c5 : a0 < (l2_5.length : Int)
 rotate_left
 ·rw [if_neg c5] at H
  exact absurd H (by simp)
 rw [if_pos c5] at H
 have c5b0 : decide (a0 < (l2_5.length : Int)) = true := decide_eq_true c5
 clear c5
 by_cases c6 : 0 ≤ a1
 rotate_left
 ·rw [if_neg c6] at H
  exact absurd H (by simp)
 rw [if_pos c6] at H
 have c6b0 : decide (0 ≤ a1) = true := decide_eq_true c6
 clear c6
 by_cases c7 : a1 < ((rd_L4 l2_5 a0).length : Int)
 rotate_left
 ·rw [if_neg c7] at H
  exact absurd H (by simp)
 rw [if_pos c7] at H
 have c7b0 : decide (a1 < ((rd_L4 l2_5 a0).length : Int)) = true := decide_eq_true c7
 clear c7
 obtain rfl := Option.some.inj H
 obtain ⟨hcz8_0, hcz8_1, hcz8_2, hcz8_3, hcz8_4, hcz8_5⟩ := c6 BK2.out
 obtain ⟨hfz8_0, hfz8_1, hfz8_2, hfz8_3, hfz8_4, hfz8_5⟩ := f6 BK2.out
 have p538 : 0 ≤ (a0 : Int) := oT (by first | (with_reducible assumption) | assumption)
 have q538 : a0 < (l2_5.length : Int) := oT (by first | (with_reducible assumption) | assumption)
 obtain ⟨ad538, A538_0, c538_0, e538, hx538_0, hl538_0, hi538_0⟩ := at_L4 HR2_5.out a0 p538 q538
 cases e538
 have HR538_0 := AZ.mk hi538_0
 have HC538_0 := AZ.mk hl538_0
 clear hi538_0 hl538_0
 replace p538 := eq_true p538
 replace q538 := eq_true q538
 have p539 : 0 ≤ (a1 : Int) := oT (by first | (with_reducible assumption) | assumption)
 have q539 : a1 < ((rd_L4 l2_5 a0).length : Int) := oT (by first | (with_reducible assumption) | assumption)
 obtain ⟨ad539, e539, hx539_0⟩ := Kd.at_int HR538_0.out a1 p539 q539
 cases e539
 replace p539 := eq_true p539
 replace q539 := eq_true q539
 go_enter Try.func109, Try.ntmps109
 go_wp2
 go_ret
 exact ⟨by first | rfl | (simp; done) | (simp [*]; done), by repeat (first | exact Drawn0.refl _ | apply Drawn0.step)⟩
end Go.Proofs.Ytepkfigcnnfoaaa.P
namespace Go.Proofs.Ytepkfigcnnfoaaa.P
open Go.RowKit Go.Proofs.YtepkfigcnnfoaaaW.PrintWords Go.Proofs.YtepkfigcnnfoaaaW.PrintLast Go.Proofs.YtepkfigcnnfoaaaW.PrintMore Go.Proofs.Ytepkfigcnnfoaaa.Deep
set_option linter.unusedVariables false
set_option linter.unusedSimpArgs false
section
variable {ops : Array Oper} {o : Oper} {a : Act} {Q : Exit → Act → World → Prop} {W : World} {K : Act → World → Prop}
theorem store27_step (hw : Region.wanted o (yielded ops a.tmps) = true) (hN : o.dst = none) (p v : Tmp) (ho : o.op = .store 27 (.tmp p) (.tmp v)) {g : Nat} {old cs : Array Value} (hx : a.eval (.tmp p) = .pointer (some ⟨g, 0, none⟩)) (hy : a.eval (.tmp v) = .agg cs) (hb : W.heap[g]? = some (.cells old 27 (0, 0)))
  (hs : cs.size = 6) (hs0 : old.size = 6) (h1 : cs.all (·.oneCell') = true)
  (h : ∀ w', w'.heap[g]? = some (.cells cs 27 (0, 0)) → (∀ B w0, Below B w0 W → B ≤ g → Below B w0 w') → (∀ k, k ≠ g → w'.heap[k]? = W.heap[k]?) → K (a.put none undef) w') : if Region.wanted o (yielded ops a.tmps) = true then Oper.wp Try.prog o a W K Q else K (a.put none undef) W := by
 rw [if_pos hw]
 refine wp_store_row 27 _ _ ho g cs hx hy 27 old hb (by rw [size27, hs]) (by omega) h1 ?_
 rw [hN]
 exact h _ (setRow_heap _ _ _ _ _ _ hb) (fun B w0 hB hle => hB.trans ⟨rfl, rfl, rfl, by simp, fun k hk => setRow_other _ _ _ _ (by omega)⟩) (fun k hk => setRow_other _ _ _ _ hk)
end
def callC (l3 : List (List S47)) : Nat → Nat → S47 := fun s q => rd_T47 (rd_L3 l3 (s : Int)) (q : Int)
def backC (l4 : List (List (List Int))) : Nat → Nat → Nat → Int := fun s q x => rd (rd_L4 (rd_L5 l4 (s : Int)) (q : Int)) (x : Int)
def innerC (l5 : List (List Int)) : Nat → Nat → Int := fun s q => rd (rd_L4 l5 (s : Int)) (q : Int)
structure Shp (m : Nat) (l2 : List Bool) (l3 : List (List S47)) (l4 : List (List (List Int))) (l5 : List (List Int)) : Prop where
 hn : l2.length ≤ 2000
 hm : m ≤ 7000
 c : l3.length = l2.length
 c1 : ∀ x ∈ l3, x.length = 2
 r : l4.length = l2.length
 r1 : ∀ x ∈ l4, x.length = 2 ∧ ∀ y ∈ x, y.length = m + 1
 i : l5.length = l2.length
 i1 : ∀ x ∈ l5, x.length = 2
section
variable {m : Nat} {st : Int} {l2 : List Bool} {l3 : List (List S47)} {l4 : List (List (List Int))} {l5 : List (List Int)} (h : Shp m l2 l3 l4 l5)
include h
theorem Shp.at3 (s : Nat) (hs : s < l2.length) : ∃ x ∈ l3, rd_L3 l3 (s : Int) = x := ⟨l3[s]'(by rw [h.c]; exact hs), List.getElem_mem _, by unfold rd_L3; rw [Int.toNat_natCast, List.getD_eq_getElem?_getD, List.getElem?_eq_getElem (by rw [h.c]; exact hs)]; rfl⟩
theorem Shp.at4 (s : Nat) (hs : s < l2.length) : ∃ x ∈ l4, rd_L5 l4 (s : Int) = x := ⟨l4[s]'(by rw [h.r]; exact hs), List.getElem_mem _, by unfold rd_L5; rw [Int.toNat_natCast, List.getD_eq_getElem?_getD, List.getElem?_eq_getElem (by rw [h.r]; exact hs)]; rfl⟩
theorem Shp.at5 (s : Nat) (hs : s < l2.length) : ∃ x ∈ l5, rd_L4 l5 (s : Int) = x := ⟨l5[s]'(by rw [h.i]; exact hs), List.getElem_mem _, by unfold rd_L4; rw [Int.toNat_natCast, List.getD_eq_getElem?_getD, List.getElem?_eq_getElem (by rw [h.i]; exact hs)]; rfl⟩
theorem Shp.call (s q : Nat) (hs : s < l2.length) (hq : q < 2) : impl_Checker_accepting_1_c.f (s : Int) (q : Int) (m : Int) st l2 l3 l4 l5 = some ((callC l3 s q).f0, (callC l3 s q).f1) := by
 obtain ⟨x, hx, e⟩ := h.at3 s hs
 have := h.c1 x hx
 have := h.c
 unfold impl_Checker_accepting_1_c.f callC
 rw [e, if_pos (by omega), if_pos (by omega), if_pos (by omega), if_pos (by omega)]
theorem Shp.back (s q x : Nat) (hs : s < l2.length) (hq : q < 2) (hx : x < m + 1) : impl_Checker_accepting_2_c.f (s : Int) (q : Int) (x : Int) (m : Int) st l2 l3 l4 l5 = some (backC l4 s q x) := by
 obtain ⟨y, hy, e⟩ := h.at4 s hs
 obtain ⟨h1, h2⟩ := h.r1 y hy
 have h3 : rd_L4 y (q : Int) = y[q]'(by omega) := by unfold rd_L4; rw [Int.toNat_natCast, List.getD_eq_getElem?_getD, List.getElem?_eq_getElem (by omega)]; rfl
 have h4 := h2 _ (List.getElem_mem (by omega : q < y.length))
 have := h.r
 unfold impl_Checker_accepting_2_c.f backC
 rw [e, h3, if_pos (by omega), if_pos (by omega), if_pos (by omega), if_pos (by omega), if_pos (by omega), if_pos (by omega)]
theorem Shp.inner (s q : Nat) (hs : s < l2.length) (hq : q < 2) : impl_Checker_accepting_3_c.f (s : Int) (q : Int) (m : Int) st l2 l3 l4 l5 = some (innerC l5 s q) := by
 obtain ⟨x, hx, e⟩ := h.at5 s hs
 have := h.i1 x hx
 have := h.i
 unfold impl_Checker_accepting_3_c.f innerC
 rw [e, if_pos (by omega), if_pos (by omega), if_pos (by omega), if_pos (by omega)]
end
def accepting.T1 : Bool × List (List Nat × List Nat) := (true, [([], []), ([0], [0]), ([1], [1]), ([], []), ([3], [3]), ([], []), ([5], [5]), ([], []), ([], []), ([], []), ([], []), ([2, 4, 6, 7, 8, 9, 10, 2], [2, 4, 6, 7, 8, 9, 10]), ([11, 11, 0, 1, 2, 3, 4, 5, 6, 7, 8, 9, 10, 11], [11])])
def accepting.B1 : List Nat := [0, 1, 3, 0, 8, 0, 32, 0, 0, 0, 0, 2047, 4095]
theorem accepting.tab1 : rtab .any (opsOf Try.f77 1) = accepting.T1 := by kernel_rfl
theorem accepting.bits1 : waitsOk accepting.T1.2 accepting.B1 = true := by kernel_rfl
set_option maxHeartbeats 8000000 in
set_option maxRecDepth 100000 in
theorem accepting_calls (m : Nat) (st : Int) (A2 : Option Addr) (c2 : Nat) (l2 : List Bool) (A3 : Option Addr) (c3 : Nat) (l3 : List (List S47)) (A4 : Option Addr) (c4 : Nat) (l4 : List (List (List Int))) (A5 : Option Addr) (c5 : Nat) (l5 : List (List Int)) (w : World)
  (hc2 : Kd.C Kd.bool w A2 l2.length l2) (hd2 : l2.length ≤ c2) (hc3 : Kd.C (Kd.slice 47 k47) w A3 l3.length l3) (hd3 : l3.length ≤ c3) (hc4 : Kd.C (Kd.slice 49 (Kd.slice 2 (Kd.int .i64))) w A4 l4.length l4) (hd4 : l4.length ≤ c4) (hc5 : Kd.C (Kd.slice 2 (Kd.int .i64)) w A5 l5.length l5) (hd5 : l5.length ≤ c5)
  (SH0 : Shp m l2 l3 l4 l5) (acc : Nat → Bool) (gf : FuncId) (Ff : Func) (cap : Array Value) (hf : Try.prog.funcs[gf]? = some Ff) (hfn : (Ff.name == "runtime.NumGoroutine") = false) (hfb : Ff.body.isSome = true)
  (PA0 : ∀ (s : Nat) (W : World), s < l2.length → Below w.heap.size w W → Calls Try.prog gf (#[.int .i64 (s : Int)] ++ cap) W fun e W' => e = .returned (.bool (acc s)) ∧ Below W.heap.size W W') :
  Calls Try.prog 77 #[.agg #[.int .i64 (m : Int), .int .i64 st, .slice A2 l2.length c2, .slice A3 l3.length c3, .slice A4 l4.length c4, .slice A5 l5.length c5], .func (.func gf) #[] cap] w fun e w' => ∃ vA vC vR vI : Value, e = .returned (.agg #[.int .i64 (m : Int), .int .i64 st, vA, vC, vR, vI]) ∧ OwnC w' w.heap.size vA vC vR vI (LAs acc l2.length) (LCs (callC l3) l2.length) (LRs m (backC l4) l2.length) (LIs (innerC l5) l2.length) ∧ Below w.heap.size w w' := by
 have hu27 := Try.underlying27
 have HB := AZ.mk (Below.refl w.heap.size w)
 have SH := AZ.mk SH0
 have PA := AZ.mk PA0
 have HF := AZ.mk hf
 have HFn := AZ.mk hfn
 have HFb := AZ.mk hfb
 have C2 := AZ.mk hc2
 have D2 := AZ.mk hd2
 have C3 := AZ.mk hc3
 have D3 := AZ.mk hd3
 have C4 := AZ.mk hc4
 have D4 := AZ.mk hd4
 have C5 := AZ.mk hc5
 have D5 := AZ.mk hd5
 clear hc2 hd2 hc3 hd3 hc4 hd4 hc5 hd5 SH0 PA0 hf hfn hfb
 go_enter Try.func77, Try.ntmps77
 go_wp2_with (first | ((with_reducible refine gate_dst (N := 2) rfl ?_); refine box_event ?hg (N := 2) ?hd (cs := #[.int .i64 (m : Int), .int .i64 st, .slice A2 l2.length c2, .slice A3 l3.length c3, .slice A4 l4.length c4, .slice A5 l5.length c5]) (t := 27) ?hr ?_; (case hd => rfl); (case hg => rfl); (case hr => first | (go_simp; done) | (go_simp; rfl)); intro gB hg WgB hbx hb; have BB := AZ.mk hbx; have GB := AZ.mk (show w.heap.size ≤ gB by rw [hg]; exact pZ HB.out); have n_ := AZ.mk (pT HB.out hb); clear HB hb hbx hg; have HB := n_; clear n_) | ((with_reducible refine gate_dst (N := 4) rfl ?_); refine box_event ?hg (N := 4) ?hd (cs := cZ) (t := 27) ?hr ?_; (case hd => rfl); (case hg => rfl); (case hr => first | (go_simp; done) | (go_simp; rfl)); intro gZ hg WgZ hbx hb; have BZ := AZ.mk hbx; have GZ := AZ.mk (show w.heap.size ≤ gZ by rw [hg]; exact pZ HB.out); have NB := AZ.mk (show gB ≠ gZ by rw [hg]; exact Nat.ne_of_lt (blk_lt BB.out)); have n_ := AZ.mk (pT HB.out hb); have n2_ := AZ.mk (bb_ BB.out hb); clear HB BB hb hbx hg; have HB := n_; have BB := n2_; clear n_ n2_))
 refine start_ (n := 13) (S := fun w' => True) (ds := []) (bz 13 0) (by kernel_rfl) rfl rfl trivial (fun hHeld => ?_)
 refine with_tabW accepting.tab1 accepting.bits1 (fun HT_ HW_ => ?_)
 have n0_ := AZ.mk (pD HB.out)
 have n1_ := AZ.mk (bd_ BB.out)
 have n2_ := AZ.mk (bd_ BZ.out)
 clear HB BB BZ
 have HB := n0_
 have BB := n1_
 have BZ := n2_
 clear n0_ n1_ n2_
 generalize World.drew _ = wD at HB BB BZ hHeld ⊢
 refine pure_ (i := 0) (N := some 5) (v := ?_) (a' := ?_) (bz 13 1) rfl rfl (any_of HT_.out (by kernel_rfl)) (fun _ _ _ h => h) (Or.inl ⟨by rfl, ?_⟩) ?_ ?_
 rotate_left
 ·intro w'
  go_simp
  with_reducible rfl
 rotate_left
 ·simp only [Act.put, sA, sB, sC, i64_w, i32_w]
  rfl
 refine pure_ (i := 3) (N := some 8) (v := ?_) (a' := ?_) (bz 13 9) rfl rfl (any_of HT_.out (by kernel_rfl)) (fun _ _ _ h => h) (Or.inl ⟨by rfl, ?_⟩) ?_ ?_
 rotate_left
 ·intro w'
  go_simp
  with_reducible rfl
 rotate_left
 ·simp only [Act.put, sA, sB, sC, i64_w, i32_w]
  rfl
 refine pure_ (i := 5) (N := some 10) (v := ?_) (a' := ?_) (bz 13 41) rfl rfl (any_of HT_.out (by kernel_rfl)) (fun _ _ _ h => h) (Or.inl ⟨by rfl, ?_⟩) ?_ ?_
 rotate_left
 ·intro w'
  go_simp
  with_reducible rfl
 rotate_left
 ·simp only [Act.put, sA, sB, sC, i64_w, i32_w]
  rfl
 refine pure_ (i := 7) (N := some 12) (v := ?_) (a' := ?_) (bz 13 169) rfl rfl (any_of HT_.out (by kernel_rfl)) (fun _ _ _ h => h) (Or.inl ⟨by rfl, ?_⟩) ?_ ?_
 rotate_left
 ·intro w'
  go_simp
  with_reducible rfl
 rotate_left
 ·simp only [Act.put, sA, sB, sC, i64_w, i32_w]
  rfl
 refine pure_ (i := 8) (N := some 13) (v := ?_) (a' := ?_) (bz 13 425) rfl rfl (any_of HT_.out (by kernel_rfl)) (fun _ _ _ h => h) (Or.inl ⟨by rfl, ?_⟩) ?_ ?_
 rotate_left
 ·intro w'
  go_simp
  with_reducible rfl
 rotate_left
 ·simp only [Act.put, sA, sB, sC, i64_w, i32_w]
  rfl
 refine pure_ (i := 9) (N := some 14) (v := ?_) (a' := ?_) (bz 13 937) rfl rfl (any_of HT_.out (by kernel_rfl)) (fun _ _ _ h => h) (Or.inl ⟨by rfl, ?_⟩) ?_ ?_
 rotate_left
 ·intro w'
  go_simp
  with_reducible rfl
 rotate_left
 ·simp only [Act.put, sA, sB, sC, i64_w, i32_w]
  rfl
 refine pure_ (i := 10) (N := some 15) (v := ?_) (a' := ?_) (bz 13 1961) rfl rfl (any_of HT_.out (by kernel_rfl)) (fun _ _ _ h => h) (Or.inl ⟨by rfl, ?_⟩) ?_ ?_
 rotate_left
 ·intro w'
  go_simp
  with_reducible rfl
 rotate_left
 ·simp only [Act.put, sA, sB, sC, i64_w, i32_w]
  rfl
 refine inv_at [1, 2, 4, 6, 11, 12] (fun a0_ b a w' => ∃ (vA : Value) (vC : Value) (vR : Value) (vI : Value) (nb : Nat) (m11_ : Value), a = putSel a0_ b [(1, 6, .slice A2 l2.length c2), (2, 7, .int .i64 (l2.length : Int)), (4, 9, .int .i64 (m : Int)), (6, 11, .int .i64 st), (11, 16, m11_)] ∧ (Below w.heap.size w w') ∧ (w'.heap[gB]? = some (.cells #[.int .i64 (m : Int), .int .i64 st, .slice A2 l2.length c2, .slice A3 l3.length c3, .slice A4 l4.length c4, .slice A5 l5.length c5] 27 (0, 0))) ∧ (b 12 = false → w'.heap[gZ]? = some (.cells cZ 27 (0, 0))) ∧ (b 11 = true → b 12 = false → OwnC w' nb vA vC vR vI (LAs acc l2.length) (LCs (callC l3) l2.length) (LRs m (backC l4) l2.length) (LIs (innerC l5) l2.length) ∧ gZ < nb) ∧ (b 12 = true → OwnC w' w.heap.size vA vC vR vI (LAs acc l2.length) (LCs (callC l3) l2.length) (LRs m (backC l4) l2.length) (LIs (innerC l5) l2.length) ∧ w'.heap[gZ]? = some (.cells (cellsI (m : Int) st vA vC vR vI) 27 (0, 0))) ∧ (b 11 = true → (m11_ : Value) = .agg #[.int .i64 (m : Int), .int .i64 st, vA, vC, vR, vI])) HT_.out HW_.out (by kernel_rfl) (by kernel_rfl) ?_ ?_ ?_
 ·exact ⟨.bool false, .bool false, .bool false, .bool false, 0, .bool false, by simp only [putSel, Bool.false_eq_true, if_false], HB.out, BB.out, fun _ => BZ.out, fun h_ => absurd h_ (by decide), fun h_ => absurd h_ (by decide), fun h_ => absurd h_ (by decide)⟩
 ·skip
  clear BB BZ HB
  refine steps_cons ?_ ?_
  ·rintro b a w' ⟨vA, vC, vR, vI, nb, m11_, ha, Q_HB, Q_BB, Q_BZ, Q_HO, Q_HO2, Q_X11_⟩ hb_ hon hoff
   refine ⟨_, rfl, fun K hK => ?_⟩
   have e5 : a.tmps[5]? = some (.pointer (some ⟨gB, 2, none⟩)) := by rw [ha]; exact (putSel_off rfl).trans rfl
   replace ha := AZ.mk ha
   have HB := AZ.mk Q_HB
   have BB := AZ.mk Q_BB
   have BZ := AZ.mk (Q_BZ (hoff 12 (by kernel_rfl)))
   have hc_ : w'.cell? ⟨gB, 2, none⟩ = some (.slice A2 l2.length c2) := (bc BB.out 2).trans rfl
   refine value_ (w1 := w') (v := .slice A2 l2.length c2) (by rfl) rfl ?_ ?_
   ·go_simp
    (try simp only [i64_w])
    try rfl
   refine hK.out _ _ ⟨vA, vC, vR, vI, nb, m11_, (by rw [ha.out]; exact putSel_upk 0 hb_ rfl rfl rfl), Q_HB, Q_BB, Q_BZ, fun h0_ _ => absurd ((hoff 11 (by kernel_rfl)).symm.trans h0_) (by decide), fun h0_ => absurd ((hoff 12 (by kernel_rfl)).symm.trans h0_) (by decide), fun h0_ => absurd ((hoff 11 (by kernel_rfl)).symm.trans h0_) (by decide)⟩
  refine steps_cons ?_ ?_
  ·rintro b a w' ⟨vA, vC, vR, vI, nb, m11_, ha, Q_HB, Q_BB, Q_BZ, Q_HO, Q_HO2, Q_X11_⟩ hb_ hon hoff
   refine ⟨_, rfl, fun K hK => ?_⟩
   have e6 : a.tmps[6]? = some (.slice A2 l2.length c2) := by rw [ha]; exact putSel_on (e := (1, 6, .slice A2 l2.length c2)) 0 rfl rfl (hon 1 (by kernel_rfl)) rfl
   replace ha := AZ.mk ha
   have HB := AZ.mk Q_HB
   have BB := AZ.mk Q_BB
   have BZ := AZ.mk (Q_BZ (hoff 12 (by kernel_rfl)))
   refine goes_ Try.func97 (by kernel_rfl) rfl #[.slice A2 l2.length c2] (by rfl) rfl rfl (by simp only [List.map_toArray, List.map_cons, List.map_nil, eval_of e6]) ?_
   refine (impl_size_bool.calls _ _ l2 _ _ (Kd.C_below C2.out HB.out) D2.out rfl).mono ?_
   rintro e w_ ⟨rfl, hd⟩
   refine ⟨_, rfl, ?_⟩
   have hb := hd.below
   refine hK.out _ _ ⟨vA, vC, vR, vI, nb, m11_, (by rw [ha.out]; exact putSel_upk 1 hb_ rfl rfl rfl), pT HB.out hb, bb_ BB.out hb, fun _ => bb_ BZ.out hb, fun h0_ _ => absurd ((hoff 11 (by kernel_rfl)).symm.trans h0_) (by decide), fun h0_ => absurd ((hoff 12 (by kernel_rfl)).symm.trans h0_) (by decide), fun h0_ => absurd ((hoff 11 (by kernel_rfl)).symm.trans h0_) (by decide)⟩
  refine steps_cons ?_ ?_
  ·rintro b a w' ⟨vA, vC, vR, vI, nb, m11_, ha, Q_HB, Q_BB, Q_BZ, Q_HO, Q_HO2, Q_X11_⟩ hb_ hon hoff
   refine ⟨_, rfl, fun K hK => ?_⟩
   have e8 : a.tmps[8]? = some (.pointer (some ⟨gB, 0, none⟩)) := by rw [ha]; exact (putSel_off rfl).trans rfl
   replace ha := AZ.mk ha
   have HB := AZ.mk Q_HB
   have BB := AZ.mk Q_BB
   have BZ := AZ.mk (Q_BZ (hoff 12 (by kernel_rfl)))
   have hc_ : w'.cell? ⟨gB, 0, none⟩ = some (.int .i64 (m : Int)) := (bc BB.out 0).trans rfl
   refine value_ (w1 := w') (v := .int .i64 (m : Int)) (by rfl) rfl ?_ ?_
   ·go_simp
    (try simp only [i64_w])
    try rfl
   refine hK.out _ _ ⟨vA, vC, vR, vI, nb, m11_, (by rw [ha.out]; exact putSel_upk 2 hb_ rfl rfl rfl), Q_HB, Q_BB, Q_BZ, fun h0_ _ => absurd ((hoff 11 (by kernel_rfl)).symm.trans h0_) (by decide), fun h0_ => absurd ((hoff 12 (by kernel_rfl)).symm.trans h0_) (by decide), fun h0_ => absurd ((hoff 11 (by kernel_rfl)).symm.trans h0_) (by decide)⟩
  refine steps_cons ?_ ?_
  ·rintro b a w' ⟨vA, vC, vR, vI, nb, m11_, ha, Q_HB, Q_BB, Q_BZ, Q_HO, Q_HO2, Q_X11_⟩ hb_ hon hoff
   refine ⟨_, rfl, fun K hK => ?_⟩
   have e10 : a.tmps[10]? = some (.pointer (some ⟨gB, 1, none⟩)) := by rw [ha]; exact (putSel_off rfl).trans rfl
   replace ha := AZ.mk ha
   have HB := AZ.mk Q_HB
   have BB := AZ.mk Q_BB
   have BZ := AZ.mk (Q_BZ (hoff 12 (by kernel_rfl)))
   have hc_ : w'.cell? ⟨gB, 1, none⟩ = some (.int .i64 st) := (bc BB.out 1).trans rfl
   refine value_ (w1 := w') (v := .int .i64 st) (by rfl) rfl ?_ ?_
   ·go_simp
    (try simp only [i64_w])
    try rfl
   refine hK.out _ _ ⟨vA, vC, vR, vI, nb, m11_, (by rw [ha.out]; exact putSel_upk 3 hb_ rfl rfl rfl), Q_HB, Q_BB, Q_BZ, fun h0_ _ => absurd ((hoff 11 (by kernel_rfl)).symm.trans h0_) (by decide), fun h0_ => absurd ((hoff 12 (by kernel_rfl)).symm.trans h0_) (by decide), fun h0_ => absurd ((hoff 11 (by kernel_rfl)).symm.trans h0_) (by decide)⟩
  refine steps_cons ?_ ?_
  ·rintro b a w' ⟨vA, vC, vR, vI, nb, m11_, ha, Q_HB, Q_BB, Q_BZ, Q_HO, Q_HO2, Q_X11_⟩ hb_ hon hoff
   refine ⟨_, rfl, fun K hK => ?_⟩
   have e7 : a.tmps[7]? = some (.int .i64 (l2.length : Int)) := by rw [ha]; exact putSel_on (e := (2, 7, .int .i64 (l2.length : Int))) 1 rfl rfl (hon 2 (by kernel_rfl)) rfl
   have e9 : a.tmps[9]? = some (.int .i64 (m : Int)) := by rw [ha]; exact putSel_on (e := (4, 9, .int .i64 (m : Int))) 2 rfl rfl (hon 4 (by kernel_rfl)) rfl
   have e11 : a.tmps[11]? = some (.int .i64 st) := by rw [ha]; exact putSel_on (e := (6, 11, .int .i64 st)) 3 rfl rfl (hon 6 (by kernel_rfl)) rfl
   have e12 : a.tmps[12]? = some (.func (.func gf) #[] cap) := by rw [ha]; exact (putSel_off rfl).trans rfl
   have e13 : a.tmps[13]? = some (.func (.func 107) #[] #[.pointer (some ⟨gB, 0, none⟩)]) := by rw [ha]; exact (putSel_off rfl).trans rfl
   have e14 : a.tmps[14]? = some (.func (.func 108) #[] #[.pointer (some ⟨gB, 0, none⟩)]) := by rw [ha]; exact (putSel_off rfl).trans rfl
   have e15 : a.tmps[15]? = some (.func (.func 109) #[] #[.pointer (some ⟨gB, 0, none⟩)]) := by rw [ha]; exact (putSel_off rfl).trans rfl
   replace ha := AZ.mk ha
   have HB := AZ.mk Q_HB
   have BB := AZ.mk Q_BB
   have BZ := AZ.mk (Q_BZ (hoff 12 (by kernel_rfl)))
   refine goes_ Try.func29 (by kernel_rfl) rfl #[.int .i64 (l2.length : Int), .int .i64 (m : Int), .int .i64 st, .func (.func gf) #[] cap, .func (.func 107) #[] #[.pointer (some ⟨gB, 0, none⟩)], .func (.func 108) #[] #[.pointer (some ⟨gB, 0, none⟩)], .func (.func 109) #[] #[.pointer (some ⟨gB, 0, none⟩)]] (by rfl) rfl rfl (by simp only [List.map_toArray, List.map_cons, List.map_nil, eval_of e7, eval_of e9, eval_of e11, eval_of e12, eval_of e13, eval_of e14, eval_of e15]) ?_
   refine (built_walk l2.length m st _ SH.out.hn SH.out.hm acc (callC l3) (backC l4) (innerC l5) gf 107 108 109 _ _ _ _ cap #[.pointer (some ⟨gB, 0, none⟩)] #[.pointer (some ⟨gB, 0, none⟩)] #[.pointer (some ⟨gB, 0, none⟩)] HF.out HFn.out HFb.out Try.func107 (by kernel_rfl) rfl Try.func108 (by kernel_rfl) rfl Try.func109 (by kernel_rfl) rfl ?HA ?HC ?HR ?HI).mono ?_
   case HA =>
    intro s W hs hbW
    exact PA.out s W hs (pT HB.out hbW)
   case HC =>
    intro s q W hs hq hbW
    refine (impl_Checker_accepting_1_c.calls (s : Int) (q : Int) gB (m : Int) st A2 c2 l2 A3 c3 l3 A4 c4 l4 A5 c5 l5 (callC l3 s q).f0 (callC l3 s q).f1 W (Kd.C_below (Kd.C_below C2.out HB.out) hbW) D2.out (Kd.C_below (Kd.C_below C3.out HB.out) hbW) D3.out (Kd.C_below (Kd.C_below C4.out HB.out) hbW) D4.out (Kd.C_below (Kd.C_below C5.out HB.out) hbW) D5.out (bb_ BB.out hbW) (SH.out.call s q hs hq)).mono ?_
    rintro e W' ⟨rfl, hd⟩
    exact ⟨rfl, hd⟩
   case HR =>
    intro s q x W hs hq hx hbW
    refine (impl_Checker_accepting_2_c.calls (s : Int) (q : Int) (x : Int) gB (m : Int) st A2 c2 l2 A3 c3 l3 A4 c4 l4 A5 c5 l5 (backC l4 s q x) W (Kd.C_below (Kd.C_below C2.out HB.out) hbW) D2.out (Kd.C_below (Kd.C_below C3.out HB.out) hbW) D3.out (Kd.C_below (Kd.C_below C4.out HB.out) hbW) D4.out (Kd.C_below (Kd.C_below C5.out HB.out) hbW) D5.out (bb_ BB.out hbW) (SH.out.back s q x hs hq hx)).mono ?_
    rintro e W' ⟨rfl, hd⟩
    exact ⟨rfl, hd.below⟩
   case HI =>
    intro s q W hs hq hbW
    refine (impl_Checker_accepting_3_c.calls (s : Int) (q : Int) gB (m : Int) st A2 c2 l2 A3 c3 l3 A4 c4 l4 A5 c5 l5 (innerC l5 s q) W (Kd.C_below (Kd.C_below C2.out HB.out) hbW) D2.out (Kd.C_below (Kd.C_below C3.out HB.out) hbW) D3.out (Kd.C_below (Kd.C_below C4.out HB.out) hbW) D4.out (Kd.C_below (Kd.C_below C5.out HB.out) hbW) D5.out (bb_ BB.out hbW) (SH.out.inner s q hs hq)).mono ?_
    rintro e W' ⟨rfl, hd⟩
    exact ⟨rfl, hd.below⟩
   rintro e w_ ⟨v1_, v2_, v3_, v4_, rfl, hO, hb⟩
   refine ⟨_, rfl, ?_⟩
   refine hK.out _ _ ⟨v1_, v2_, v3_, v4_, (World.heap w').size, (.agg #[.int .i64 (m : Int), .int .i64 st, v1_, v2_, v3_, v4_]), (by rw [ha.out]; exact putSel_upk 4 hb_ rfl rfl rfl), pT HB.out hb, bb_ BB.out hb, fun _ => bb_ BZ.out hb, fun _ _ => ⟨hO, blk_lt BZ.out⟩, fun h0_ => absurd ((hoff 12 (by kernel_rfl)).symm.trans h0_) (by decide), fun _ => rfl⟩
  refine steps_cons ?_ ?_
  ·rintro b a w' ⟨vA, vC, vR, vI, nb, m11_, ha, Q_HB, Q_BB, Q_BZ, Q_HO, Q_HO2, Q_X11_⟩ hb_ hon hoff
   refine ⟨_, rfl, fun K hK => ?_⟩
   have e4 : a.tmps[4]? = some (.pointer (some ⟨gZ, 0, none⟩)) := by rw [ha]; exact (putSel_off rfl).trans rfl
   have e16 : a.tmps[16]? = some (m11_) := by rw [ha]; exact putSel_on (e := (11, 16, m11_)) 4 rfl rfl (hon 11 (by kernel_rfl)) rfl
   rw [Q_X11_ (hon 11 (by kernel_rfl))] at e16
   replace ha := AZ.mk ha
   have HB := AZ.mk Q_HB
   have BB := AZ.mk Q_BB
   have BZ := AZ.mk (Q_BZ hb_)
   have HO := AZ.mk (Q_HO (hon 11 (by kernel_rfl)) hb_)
   obtain ⟨hO_, hn_⟩ := HO.out
   refine store27_step (by rfl) rfl 4 16 rfl (g := gZ) (old := cZ) (cs := cellsI (m : Int) st vA vC vR vI) (eval_of e4) (eval_of e16) BZ.out rfl rfl (cellsI_one _ _ (Reads.own hO_)) ?_
   intro w_ hbx hB hfar
   refine hK.out _ _ ⟨vA, vC, vR, vI, nb, m11_, (by rw [ha.out]; exact putSel_none (v := undef) rfl), (hB _ _ HB.out GZ.out), ((hfar _ NB.out).trans BB.out), fun h0_ => absurd ((up_self b 12).symm.trans h0_) (by decide), fun _ h1_ => absurd ((up_self b 12).symm.trans h1_) (by decide), fun _ => ⟨own_far hO_ (fun k hk => hfar k (by omega)) (by have := GZ.out; omega), hbx⟩, Q_X11_⟩
  exact steps_nil
 ·rintro b a w' hall ⟨vA, vC, vR, vI, nb, m11_, ha, Q_HB, Q_BB, Q_BZ, Q_HO, Q_HO2, Q_X11_⟩
  clear BB BZ HB
  have hb1_ := hall 1 (by kernel_rfl)
  have hb2_ := hall 2 (by kernel_rfl)
  have hb4_ := hall 4 (by kernel_rfl)
  have hb6_ := hall 6 (by kernel_rfl)
  have hb11_ := hall 11 (by kernel_rfl)
  have hb12_ := hall 12 (by kernel_rfl)
  subst ha
  obtain rfl := Q_X11_ hb11_
  simp only [putSel, hb1_, hb2_, hb4_, hb6_, hb11_, hb12_, if_true, Act.put, sA, sB, sC]
  have HB := AZ.mk Q_HB
  clear Q_HB
  have BB := AZ.mk Q_BB
  clear Q_BB
  clear Q_BZ
  clear Q_HO
  have HO2 := AZ.mk (Q_HO2 hb12_)
  clear Q_HO2
  clear hall hb1_ hb2_ hb4_ hb6_ hb11_ hb12_
  obtain ⟨hO, hbx⟩ := HO2.out
  go_wp2
  refine bodyPost_ret (results_cell_row rfl _ _ gZ 27 (cellsI (m : Int) st vA vC vR vI) (0, 0) _ rfl hbx Try.underlying27 rfl (by kernel_rfl)) rfl ?_
  exact ⟨vA, vC, vR, vI, rfl, hO, HB.out⟩
def accC (l2 : List Bool) : Nat → Bool := fun s => !(rdOf false l2 (s : Int))
theorem two47 (x : List S47) (h : x.length = 2) : [rd_T47 x ((0 : Nat) : Int), rd_T47 x ((1 : Nat) : Int)] = x := by
 match x, h with
 | [a, b], _ => rfl
theorem two49 (x : List (List Int)) (h : x.length = 2) : [rd_L4 x ((0 : Nat) : Int), rd_L4 x ((1 : Nat) : Int)] = x := by
 match x, h with
 | [a, b], _ => rfl
theorem mem49 (x : List (List Int)) (h : x.length = 2) : rd_L4 x ((0 : Nat) : Int) ∈ x ∧ rd_L4 x ((1 : Nat) : Int) ∈ x := by
 match x, h with
 | [a, b], _ => exact ⟨List.mem_cons_self .., List.mem_cons_of_mem _ (List.mem_cons_self ..)⟩
theorem two2 (x : List Int) (h : x.length = 2) : [rd x ((0 : Nat) : Int), rd x ((1 : Nat) : Int)] = x := by
 match x, h with
 | [a, b], _ => rfl
theorem rowL_eq (x : List Int) (m : Nat) (h : x.length = m + 1) : rowL m (fun j => rd x (j : Int)) = x := by
 unfold rowL
 apply List.ext_getElem
 ·simp [h]
 ·intro i h1 h2
  rw [List.getElem_map, List.getElem_range]
  unfold rd
  rw [Int.toNat_natCast, List.getD_eq_getElem?_getD, List.getElem?_eq_getElem h2]; rfl
theorem map_range_eq {α β : Type} (f : Nat → β) (g : α → β) (l : List α) (n : Nat) (hl : l.length = n) (h : ∀ i (hi : i < l.length), f i = g l[i]) : (List.range n).map f = l.map g := by
 apply List.ext_getElem
 ·simp [hl]
 ·intro i h1 h2
  rw [List.getElem_map, List.getElem_range, List.getElem_map]
  exact h i (by simpa using h2)
theorem Shp.eA {m : Nat} {l2 : List Bool} {l3 : List (List S47)} {l4 : List (List (List Int))} {l5 : List (List Int)} (_h : Shp m l2 l3 l4 l5) : LAs (accC l2) l2.length = l2.map (!·) := map_range_eq _ _ l2 _ rfl (fun i hi => by unfold accC rdOf; rw [Int.toNat_natCast, List.getD_eq_getElem?_getD, List.getElem?_eq_getElem hi]; rfl)
section
variable {m : Nat} {l2 : List Bool} {l3 : List (List S47)} {l4 : List (List (List Int))} {l5 : List (List Int)} (h : Shp m l2 l3 l4 l5)
include h
theorem Shp.eC : LCs (callC l3) l2.length = l3 := by
 have := map_range_eq (fun q => [callC l3 q 0, callC l3 q 1]) id l3 l2.length h.c (fun i hi => by
  have e : rd_L3 l3 (i : Int) = l3[i] := by unfold rd_L3; rw [Int.toNat_natCast, List.getD_eq_getElem?_getD, List.getElem?_eq_getElem hi]; rfl
  unfold callC; rw [e]; exact two47 _ (h.c1 _ (List.getElem_mem hi)))
 rw [List.map_id] at this; exact this
theorem Shp.eR : LRs m (backC l4) l2.length = l4 := by
 have := map_range_eq (fun q => [rowL m (backC l4 q 0), rowL m (backC l4 q 1)]) id l4 l2.length h.r (fun i hi => by
  have e : rd_L5 l4 (i : Int) = l4[i] := by unfold rd_L5; rw [Int.toNat_natCast, List.getD_eq_getElem?_getD, List.getElem?_eq_getElem hi]; rfl
  obtain ⟨h1, h2⟩ := h.r1 _ (List.getElem_mem hi)
  have e2 := two49 _ h1
  obtain ⟨m0, m1⟩ := mem49 _ h1
  show [rowL m (fun j => rd (rd_L4 (rd_L5 l4 (i : Int)) ((0 : Nat) : Int)) (j : Int)), rowL m (fun j => rd (rd_L4 (rd_L5 l4 (i : Int)) ((1 : Nat) : Int)) (j : Int))] = _
  rw [e, rowL_eq _ m (h2 _ m0), rowL_eq _ m (h2 _ m1)]
  exact e2)
 rw [List.map_id] at this; exact this
theorem Shp.eI : LIs (innerC l5) l2.length = l5 := by
 have := map_range_eq (fun q => [innerC l5 q 0, innerC l5 q 1]) id l5 l2.length h.i (fun i hi => by
  have e : rd_L4 l5 (i : Int) = l5[i] := by unfold rd_L4; rw [Int.toNat_natCast, List.getD_eq_getElem?_getD, List.getElem?_eq_getElem hi]; rfl
  unfold innerC; rw [e]; exact two2 _ (h.i1 _ (List.getElem_mem hi)))
 rw [List.map_id] at this; exact this
end
theorem own_nil' (w : World) (B : Nat) : OwnC w B nilV nilV nilV nilV [] [] [] [] := ⟨fun _ => 0, Kd.R_nil _ _ _ _ _, Kd.S_nil _ _ _ _ _, Kd.S_nil _ _ _ _ _, Kd.S_nil _ _ _ _ _⟩
set_option maxHeartbeats 8000000 in
set_option maxRecDepth 100000 in
theorem opp_true (k m : Nat) (st : Int) (A2 : Option Addr) (c2 : Nat) (l2 : List Bool) (A3 : Option Addr) (c3 : Nat) (l3 : List (List S47)) (A4 : Option Addr) (c4 : Nat) (l4 : List (List (List Int))) (A5 : Option Addr) (c5 : Nat) (l5 : List (List Int)) (w : World)
  (hc2 : Kd.C Kd.bool w A2 l2.length l2) (hd2 : l2.length ≤ c2) (hc3 : Kd.C (Kd.slice 47 k47) w A3 l3.length l3) (hd3 : l3.length ≤ c3) (hc4 : Kd.C (Kd.slice 49 (Kd.slice 2 (Kd.int .i64))) w A4 l4.length l4) (hd4 : l4.length ≤ c4) (hc5 : Kd.C (Kd.slice 2 (Kd.int .i64)) w A5 l5.length l5) (hd5 : l5.length ≤ c5)
  (hv : impl_ValidChecker.f k (m : Int) st l2 l3 l4 l5 = some true) (SH0 : Shp m l2 l3 l4 l5) :
  Calls Try.prog 24 #[.agg #[.int .i64 (m : Int), .int .i64 st, .slice A2 l2.length c2, .slice A3 l3.length c3, .slice A4 l4.length c4, .slice A5 l5.length c5]] w fun e w' => ∃ vA vC vR vI : Value, e = .returned (.tuple #[.agg #[.int .i64 (m : Int), .int .i64 st, vA, vC, vR, vI], .int .i64 0]) ∧ OwnC w' w.heap.size vA vC vR vI (l2.map (!·)) l3 l4 l5 ∧ Below w.heap.size w w' := by
 have hu27 := Try.underlying27
 have HB := AZ.mk (Below.refl w.heap.size w)
 have HV := AZ.mk hv
 have SH := AZ.mk SH0
 have C2 := AZ.mk hc2
 have D2 := AZ.mk hd2
 have C3 := AZ.mk hc3
 have D3 := AZ.mk hd3
 have C4 := AZ.mk hc4
 have D4 := AZ.mk hd4
 have C5 := AZ.mk hc5
 have D5 := AZ.mk hd5
 clear hc2 hd2 hc3 hd3 hc4 hd4 hc5 hd5 hv SH0
 go_enter Try.func24, Try.ntmps24
 go_wp2_with (first | ((with_reducible refine gate_dst (N := 1) rfl ?_); refine box_event ?hg (N := 1) ?hd (cs := #[.int .i64 (m : Int), .int .i64 st, .slice A2 l2.length c2, .slice A3 l3.length c3, .slice A4 l4.length c4, .slice A5 l5.length c5]) (t := 27) ?hr ?_; (case hd => rfl); (case hg => rfl); (case hr => first | (go_simp; done) | (go_simp; rfl)); intro gB hg WgB hbx hb; have BB := AZ.mk hbx; have GB := AZ.mk (show w.heap.size ≤ gB by rw [hg]; exact pZ HB.out); have n_ := AZ.mk (pT HB.out hb); clear HB hb hbx hg; have HB := n_; clear n_) | ((with_reducible refine gate_dst (N := 2) rfl ?_); refine box_event ?hg (N := 2) ?hd (cs := cZ) (t := 27) ?hr ?_; (case hd => rfl); (case hg => rfl); (case hr => first | (go_simp; done) | (go_simp; rfl)); intro gZ hg WgZ hbx hb; have BZ := AZ.mk hbx; have GZ := AZ.mk (show w.heap.size ≤ gZ by rw [hg]; exact pZ HB.out); have n_ := AZ.mk (pT HB.out hb); have n2_ := AZ.mk (bb_ BB.out hb); clear HB BB hb hbx hg; have HB := n_; have BB := n2_; clear n_ n2_) | ((with_reducible refine gate_dst (N := 4) rfl ?_); refine load27 rfl 1 rfl (g := gB) rfl BB.out rfl ?_) | ((with_reducible refine gate_dst (N := 8) rfl ?_); refine load27 rfl 1 rfl (g := gB) rfl BB.out rfl ?_) | ((with_reducible refine gate_callee (f := 76) rfl ?_); refine goesL_ (some 5) rfl rfl Try.func76 (by kernel_rfl) rfl #[.agg #[.int .i64 (m : Int), .int .i64 st, .slice A2 l2.length c2, .slice A3 l3.length c3, .slice A4 l4.length c4, .slice A5 l5.length c5]] rfl (by (try simp only [List.map_toArray, List.map_cons, List.map_nil]); first | done | rfl) ?_; refine (impl_ValidChecker.calls k (m : Int) st A2 c2 l2 A3 c3 l3 A4 c4 l4 A5 c5 l5 true _ (Kd.C_below C2.out HB.out) D2.out (Kd.C_below C3.out HB.out) D3.out (Kd.C_below C4.out HB.out) D4.out (Kd.C_below C5.out HB.out) D5.out HV.out).mono ?_; rintro e W5 ⟨rfl, hb⟩; refine ⟨_, rfl, ?_⟩; have n0_ := AZ.mk (pT HB.out hb); have n1_ := AZ.mk (bb_ BB.out hb); have n2_ := AZ.mk (bb_ BZ.out hb); clear HB BB BZ hb; have HB := n0_; have BB := n1_; have BZ := n2_; clear n0_ n1_ n2_) | ((with_reducible refine gate_callee (f := 77) rfl ?_); refine goesL_ (some 10) rfl rfl Try.func77 (by kernel_rfl) rfl #[.agg #[.int .i64 (m : Int), .int .i64 st, .slice A2 l2.length c2, .slice A3 l3.length c3, .slice A4 l4.length c4, .slice A5 l5.length c5], .func (.func 78) #[] #[.pointer (some ⟨gB, 0, none⟩)]] rfl (by (try simp only [List.map_toArray, List.map_cons, List.map_nil]); first | done | rfl) ?_; refine (accepting_calls m st A2 c2 l2 A3 c3 l3 A4 c4 l4 A5 c5 l5 _ (Kd.C_below C2.out HB.out) D2.out (Kd.C_below C3.out HB.out) D3.out (Kd.C_below C4.out HB.out) D4.out (Kd.C_below C5.out HB.out) D5.out SH.out (accC l2) 78 _ #[.pointer (some ⟨gB, 0, none⟩)] Try.func78 (by kernel_rfl) rfl ?PA).mono ?_; (case PA => intro s W hs hbW; refine (impl_OppositeChecker_1_c.calls (s : Int) gB (m : Int) st A2 c2 l2 A3 c3 l3 A4 c4 l4 A5 c5 l5 (accC l2 s) W (Kd.C_below (Kd.C_below C2.out HB.out) hbW) D2.out (Kd.C_below (Kd.C_below C3.out HB.out) hbW) D3.out (Kd.C_below (Kd.C_below C4.out HB.out) hbW) D4.out (Kd.C_below (Kd.C_below C5.out HB.out) hbW) D5.out (bb_ BB.out hbW) (by unfold impl_OppositeChecker_1_c.f accC; rw [if_pos (by omega), if_pos (by omega)])).mono ?_; rintro e W' ⟨rfl, hd⟩; exact ⟨rfl, hd.below⟩); rintro e W7 ⟨vA, vC, vR, vI, rfl, hO, hb⟩; refine ⟨_, rfl, ?_⟩; have HO := AZ.mk hO; have GN := AZ.mk (blk_lt BZ.out); clear hO; have n0_ := AZ.mk (pT HB.out hb); have n1_ := AZ.mk (bb_ BB.out hb); have n2_ := AZ.mk (bb_ BZ.out hb); clear HB BB BZ hb; have HB := n0_; have BB := n1_; have BZ := n2_; clear n0_ n1_ n2_) | ((with_reducible refine gate_ (.store 27 (.tmp 2) (.tmp 10)) rfl ?_); refine store27 rfl 2 10 rfl (g := gZ) (old := cZ) (cs := cellsI (m : Int) st vA vC vR vI) rfl rfl BZ.out rfl rfl (cellsI_one _ _ (Reads.own HO.out)) ?_; intro w9 hbx hB hfar))
 refine bodyPost_ret (results_ct rfl _ _ gZ 27 (cellsI (m : Int) st vA vC vR vI) (0, 0) _ rfl hbx Try.underlying27 rfl (by kernel_rfl)) rfl ?_
 refine ⟨vA, vC, vR, vI, rfl, ?_, hB _ _ HB.out GZ.out⟩
 have h9 := own_far HO.out (fun k hk => hfar k (by have := GN.out; omega)) (by have := GZ.out; have := GN.out; omega : w.heap.size ≤ _)
 rw [SH.out.eA, SH.out.eC, SH.out.eR, SH.out.eI] at h9
 exact h9
set_option maxHeartbeats 8000000 in
set_option maxRecDepth 100000 in
theorem opp_false (k : Nat) (m : Int) (st : Int) (A2 : Option Addr) (c2 : Nat) (l2 : List Bool) (A3 : Option Addr) (c3 : Nat) (l3 : List (List S47)) (A4 : Option Addr) (c4 : Nat) (l4 : List (List (List Int))) (A5 : Option Addr) (c5 : Nat) (l5 : List (List Int)) (w : World)
  (hc2 : Kd.C Kd.bool w A2 l2.length l2) (hd2 : l2.length ≤ c2) (hc3 : Kd.C (Kd.slice 47 k47) w A3 l3.length l3) (hd3 : l3.length ≤ c3) (hc4 : Kd.C (Kd.slice 49 (Kd.slice 2 (Kd.int .i64))) w A4 l4.length l4) (hd4 : l4.length ≤ c4) (hc5 : Kd.C (Kd.slice 2 (Kd.int .i64)) w A5 l5.length l5) (hd5 : l5.length ≤ c5)
  (hv : impl_ValidChecker.f k m st l2 l3 l4 l5 = some false) :
  Calls Try.prog 24 #[.agg #[.int .i64 m, .int .i64 st, .slice A2 l2.length c2, .slice A3 l3.length c3, .slice A4 l4.length c4, .slice A5 l5.length c5]] w fun e w' => ∃ vA vC vR vI : Value, e = .returned (.tuple #[.agg #[.int .i64 0, .int .i64 0, vA, vC, vR, vI], .int .i64 1]) ∧ OwnC w' w.heap.size vA vC vR vI [] [] [] [] ∧ Below w.heap.size w w' := by
 have hu27 := Try.underlying27
 have HB := AZ.mk (Below.refl w.heap.size w)
 have HV := AZ.mk hv
 have C2 := AZ.mk hc2
 have D2 := AZ.mk hd2
 have C3 := AZ.mk hc3
 have D3 := AZ.mk hd3
 have C4 := AZ.mk hc4
 have D4 := AZ.mk hd4
 have C5 := AZ.mk hc5
 have D5 := AZ.mk hd5
 clear hc2 hd2 hc3 hd3 hc4 hd4 hc5 hd5 hv
 go_enter Try.func24, Try.ntmps24
 go_wp2_with (first | ((with_reducible refine gate_dst (N := 1) rfl ?_); refine box_event ?hg (N := 1) ?hd (cs := #[.int .i64 m, .int .i64 st, .slice A2 l2.length c2, .slice A3 l3.length c3, .slice A4 l4.length c4, .slice A5 l5.length c5]) (t := 27) ?hr ?_; (case hd => rfl); (case hg => rfl); (case hr => first | (go_simp; done) | (go_simp; rfl)); intro gB hg WgB hbx hb; have BB := AZ.mk hbx; have GB := AZ.mk (show w.heap.size ≤ gB by rw [hg]; exact pZ HB.out); have n_ := AZ.mk (pT HB.out hb); clear HB hb hbx hg; have HB := n_; clear n_) | ((with_reducible refine gate_dst (N := 2) rfl ?_); refine box_event ?hg (N := 2) ?hd (cs := cZ) (t := 27) ?hr ?_; (case hd => rfl); (case hg => rfl); (case hr => first | (go_simp; done) | (go_simp; rfl)); intro gZ hg WgZ hbx hb; have BZ := AZ.mk hbx; have GZ := AZ.mk (show w.heap.size ≤ gZ by rw [hg]; exact pZ HB.out); have n_ := AZ.mk (pT HB.out hb); have n2_ := AZ.mk (bb_ BB.out hb); clear HB BB hb hbx hg; have HB := n_; have BB := n2_; clear n_ n2_) | ((with_reducible refine gate_dst (N := 4) rfl ?_); refine load27 rfl 1 rfl (g := gB) rfl BB.out rfl ?_) | ((with_reducible refine gate_callee (f := 76) rfl ?_); refine goesL_ (some 5) rfl rfl Try.func76 (by kernel_rfl) rfl #[.agg #[.int .i64 m, .int .i64 st, .slice A2 l2.length c2, .slice A3 l3.length c3, .slice A4 l4.length c4, .slice A5 l5.length c5]] rfl (by (try simp only [List.map_toArray, List.map_cons, List.map_nil]); first | done | rfl) ?_; refine (impl_ValidChecker.calls k m st A2 c2 l2 A3 c3 l3 A4 c4 l4 A5 c5 l5 false _ (Kd.C_below C2.out HB.out) D2.out (Kd.C_below C3.out HB.out) D3.out (Kd.C_below C4.out HB.out) D4.out (Kd.C_below C5.out HB.out) D5.out HV.out).mono ?_; rintro e W5 ⟨rfl, hb⟩; refine ⟨_, rfl, ?_⟩; have n0_ := AZ.mk (pT HB.out hb); have n1_ := AZ.mk (bb_ BB.out hb); have n2_ := AZ.mk (bb_ BZ.out hb); clear HB BB BZ hb; have HB := n0_; have BB := n1_; have BZ := n2_; clear n0_ n1_ n2_) | ((with_reducible refine gate_ (.store 27 (.tmp 2) (.tmp 7)) rfl ?_); refine store27 rfl 2 7 rfl (g := gZ) (old := cZ) (cs := cZ) rfl rfl BZ.out rfl rfl (cells4_one 0 0 none none none none 0 0 0 0 0 0 0 0) ?_; intro w9 hbx hB hfar))
 refine bodyPost_ret (results_ct rfl _ _ gZ 27 cZ (0, 0) _ rfl hbx Try.underlying27 rfl (by kernel_rfl)) rfl ?_
 exact ⟨nilV, nilV, nilV, nilV, rfl, own_nil' _ _, hB _ _ HB.out GZ.out⟩
end Go.Proofs.Ytepkfigcnnfoaaa.P
namespace Go.Proofs.Ytepkfigcnnfoaaa.P
open Go.RowKit Go.Proofs.YtepkfigcnnfoaaaW.PrintWords Go.Proofs.YtepkfigcnnfoaaaW.PrintLast Go.Proofs.YtepkfigcnnfoaaaW.PrintMore Go.Proofs.Ytepkfigcnnfoaaa.Deep
set_option linter.unusedVariables false
set_option linter.unusedSimpArgs false
def OwnB (w : World) (B N : Nat) (vA vC vR vI : Value) (LA : List Bool) (LC : List (List S47)) (LR : List (List (List Int))) (LI : List (List Int)) : Prop :=
 ∃ f : Nat → Nat, Kd.bool.R 4 w B (fun k => f k = 0 ∧ k < N) vA LA ∧ Kd.S (Kd.slice 47 k47) 48 w B (fun k => f k = 1 ∧ k < N) vC LC ∧ Kd.S (sliceS 49 (Kd.slice 2 (Kd.int .i64))) 25 w B (fun k => f k = 2 ∧ k < N) vR LR ∧ Kd.S (Kd.slice 2 (Kd.int .i64)) 49 w B (fun k => f k = 3 ∧ k < N) vI LI
section
variable {w w' : World} {B N : Nat} {vA vC vR vI : Value} {LA : List Bool} {LC : List (List S47)} {LR : List (List (List Int))} {LI : List (List Int)}
theorem own_bound (h : OwnC w B vA vC vR vI LA LC LR LI) (hb : Below w.heap.size w w') : OwnB w' B w.heap.size vA vC vR vI LA LC LR LI := by
 obtain ⟨f, h0, h1, h2, h3⟩ := h
 have hgr := grown_of_below hb none
 exact ⟨f, Kd.R_grown (R_tag_in h0) hgr (fun _ _ e => by cases e), Kd.S_grown (S_tag_in h1) hgr (fun _ _ e => by cases e), Kd.S_grown (S_tag_in h2) hgr (fun _ _ e => by cases e), Kd.S_grown (S_tag_in h3) hgr (fun _ _ e => by cases e)⟩
theorem own_kept (h : OwnC w B vA vC vR vI LA LC LR LI) (hk : Kept w w' (fun k => k < N)) (hN : N ≤ B) : OwnC w' B vA vC vR vI LA LC LR LI := by
 obtain ⟨f, h0, h1, h2, h3⟩ := h
 exact ⟨f, Kd.R_mono (Kd.R_step (Kd.R_bound h0) (fun k hk' hlt => hk.2 k hlt (by have := hk'.2.1; omega))) (fun _ hk => hk.1), Kd.S_mono (Kd.S_step (Kd.S_bound h1) (fun k hk' hlt => hk.2 k hlt (by have := hk'.2.1; omega))) (fun _ hk => hk.1), Kd.S_mono (Kd.S_step (Kd.S_bound h2) (fun k hk' hlt => hk.2 k hlt (by have := hk'.2.1; omega))) (fun _ hk => hk.1), Kd.S_mono (Kd.S_step (Kd.S_bound h3) (fun k hk' hlt => hk.2 k hlt (by have := hk'.2.1; omega))) (fun _ hk => hk.1)⟩
theorem own_lower {B' : Nat} (h : OwnC w B vA vC vR vI LA LC LR LI) (hB : B' ≤ B) : OwnC w B' vA vC vR vI LA LC LR LI := by
 obtain ⟨f, h0, h1, h2, h3⟩ := h
 exact ⟨f, Kd.R_lower h0 hB, Kd.S_lower h1 hB, Kd.S_lower h2 hB, Kd.S_lower h3 hB⟩
end
set_option maxHeartbeats 4000000 in
set_option maxRecDepth 100000 in
theorem markChecker_kept (w0 w : World) (N : Nat) (hNle : N ≤ w.heap.size) (m st : Int) (vA vC vR vI : Value) (LA : List Bool) (LC : List (List S47)) (LR : List (List (List Int))) (LI : List (List Int)) (hk : okC LA LC LR LI) (hB : Below w0.heap.size w0 w) (hO : OwnB w w0.heap.size N vA vC vR vI LA LC LR LI) (g : Nat) (csg : Array Value) (hg : w.heap[g]? = some (.cells csg 27 (0, 0))) :
  Calls Try.prog 13 #[.agg #[.int .i64 m, .int .i64 st, vA, vC, vR, vI], .int .i64 1] w fun e w' => e = .returned (.int .i64 (numE LA LC LR LI)) ∧ OwnC w' w0.heap.size vA vC vR vI (markA LA) (mks szP mkP LC (numC LA)) (mks szII mkII LR (numR LA LC)) (mkII LI (numI LA LC LR)) ∧ Below w0.heap.size w0 w' ∧ w'.heap[g]? = some (.cells csg 27 (0, 0)) ∧ Kept w w' (fun k => k < N) := by
 have hu27 := Try.underlying27
 obtain ⟨f, h0, h1, h2, h3⟩ := hO
 obtain ⟨⟨A0, n0, c0, rfl⟩, ⟨A1, n1, c1, rfl⟩, ⟨A2, n2, c2, rfl⟩, ⟨A3, n3, c3, rfl⟩⟩ : (∃ A n c, vA = .slice A n c) ∧ (∃ A n c, vC = .slice A n c) ∧ (∃ A n c, vR = .slice A n c) ∧ (∃ A n c, vI = .slice A n c) := ⟨shapeR h0, shapeS h1, shapeS h2, shapeS h3⟩
 obtain ⟨vA, hvA⟩ : ∃ v, v = Value.slice A0 n0 c0 := ⟨_, rfl⟩
 obtain ⟨vC, hvC⟩ : ∃ v, v = Value.slice A1 n1 c1 := ⟨_, rfl⟩
 obtain ⟨vR, hvR⟩ : ∃ v, v = Value.slice A2 n2 c2 := ⟨_, rfl⟩
 obtain ⟨vI, hvI⟩ : ∃ v, v = Value.slice A3 n3 c3 := ⟨_, rfl⟩
 have HN := AZ.mk hNle
 have HKP := AZ.mk (Kept.refl w (fun k => k < N))
 have HA := AZ.mk (show Kd.bool.R 4 w w0.heap.size (tgN f N g 0) (Value.slice A0 n0 c0) LA from Kd.R_types h0 hg (by decide))
 have HC := AZ.mk (show Kd.S (Kd.slice 47 k47) 48 w w0.heap.size (tgN f N g 1) (Value.slice A1 n1 c1) LC from Kd.S_types h1 hg (by decide))
 have HR := AZ.mk (show Kd.S (sliceS 49 (Kd.slice 2 (Kd.int .i64))) 25 w w0.heap.size (tgN f N g 2) (Value.slice A2 n2 c2) LR from Kd.S_types h2 hg (by decide))
 have HI := AZ.mk (show Kd.S (Kd.slice 2 (Kd.int .i64)) 49 w w0.heap.size (tgN f N g 3) (Value.slice A3 n3 c3) LI from Kd.S_types h3 hg (by decide))
 have HB := AZ.mk hB
 have HK := AZ.mk hk
 have BG := AZ.mk hg
 clear h0 h1 h2 h3 hB hk hNle hg hvA hvC hvR hvI
 clear vA vC vR vI
 go_enter Try.func13, Try.ntmps13
 go_wp2_with (first | ((with_reducible refine gate_dst (N := 2) rfl ?_); refine box_event ?hg (N := 2) ?hd (cs := #[.int .i64 m, .int .i64 st, .slice A0 n0 c0, .slice A1 n1 c1, .slice A2 n2 c2, .slice A3 n3 c3]) (t := 27) ?hr ?_; (case hd => rfl); (case hg => rfl); (case hr => first | (go_simp; done) | (go_simp; rfl)); intro gb hg W9 hbx hb; have hgr := grown_of_below hb none; have n0_ := AZ.mk (Kd.R_grown HA.out hgr (fun _ _ e => by cases e)); have n1_ := AZ.mk (Kd.S_grown HC.out hgr (fun _ _ e => by cases e)); have n2_ := AZ.mk (Kd.S_grown HR.out hgr (fun _ _ e => by cases e)); have n3_ := AZ.mk (Kd.S_grown HI.out hgr (fun _ _ e => by cases e)); have BK := AZ.mk hbx; have GB := AZ.mk (show N ≤ gb by rw [hg]; exact HN.out); have n4_ := AZ.mk (pT HB.out hb); have n5_ := AZ.mk (bb_ BG.out hb); have n6_ := AZ.mk (Kept.of_below hb (fun k => k < N)); clear HKP HA HC HR HI HB BG hgr hbx hb hg; have HA := n0_; have HC := n1_; have HR := n2_; have HI := n3_; have HB := n4_; have BG := n5_; have HKP := n6_; clear n0_ n1_ n2_ n3_ n4_ n5_ n6_; have hc2 := (bc BK.out 2 : W9.cell? ⟨gb, 2, none⟩ = _).trans rfl; have hc3 := (bc BK.out 3 : W9.cell? ⟨gb, 3, none⟩ = _).trans rfl; have hc4 := (bc BK.out 4 : W9.cell? ⟨gb, 4, none⟩ = _).trans rfl; have hc5 := (bc BK.out 5 : W9.cell? ⟨gb, 5, none⟩ = _).trans rfl) | ((with_reducible refine gate_callee (f := 38) rfl ?_); refine goesL_ (some 8) rfl rfl Try.func38 (by kernel_rfl) rfl #[.slice A0 n0 c0, .int .i64 1] rfl (by (try simp only [List.map_toArray, List.map_cons, List.map_nil]); first | done | rfl) ?_; refine (markBoolS_calls w0 _ LA 1 _ _ HK.out.a (by omega) (by omega) HB.out HA.out).mono ?_; rintro e W0 ⟨rfl, hR, hB2, hK2⟩; refine ⟨_, rfl, ?_⟩; have n0_ := AZ.mk hR; have n2_ := AZ.mk (Kd.S_kept HC.out hK2 (fun k hk hn => absurd (hk.1.1.symm.trans hn.1.1) (by decide))); have n3_ := AZ.mk (Kd.S_kept HR.out hK2 (fun k hk hn => absurd (hk.1.1.symm.trans hn.1.1) (by decide))); have n4_ := AZ.mk (Kd.S_kept HI.out hK2 (fun k hk hn => absurd (hk.1.1.symm.trans hn.1.1) (by decide))); have n5_ := AZ.mk (show W0.heap[gb]? = some (.cells #[.int .i64 m, .int .i64 st, .slice A0 n0 c0, .slice A1 n1 c1, .slice A2 n2 c2, .slice A3 n3 c3] 27 (0, 0)) from (hK2.2 gb (blk_lt BK.out) (fun h => absurd h.1.2 (by have := GB.out; omega))).trans BK.out); have n6_ := AZ.mk hB2; have n7_ := AZ.mk ((hK2.2 g (blk_lt BG.out) (fun h => h.2 rfl)).trans BG.out); have n8_ := AZ.mk (Kept.then_ HKP.out hK2 (fun k hk => .inl hk.1.2)); clear HKP HA HC HR HI BK HB BG hc2 hc3 hc4 hc5 hR hB2 hK2; have HA := n0_; have HC := n2_; have HR := n3_; have HI := n4_; have BK := n5_; have HB := n6_; have BG := n7_; have HKP := n8_; clear n0_ n2_ n3_ n4_ n5_ n6_ n7_ n8_; have hc2 := (bc BK.out 2 : W0.cell? ⟨gb, 2, none⟩ = _).trans rfl; have hc3 := (bc BK.out 3 : W0.cell? ⟨gb, 3, none⟩ = _).trans rfl; have hc4 := (bc BK.out 4 : W0.cell? ⟨gb, 4, none⟩ = _).trans rfl; have hc5 := (bc BK.out 5 : W0.cell? ⟨gb, 5, none⟩ = _).trans rfl) | ((with_reducible refine gate_callee (f := 39) rfl ?_); refine goesL_ (some 12) rfl rfl Try.func39 (by kernel_rfl) rfl #[.slice A1 n1 c1, .int .i64 (numC LA)] rfl (by (try simp only [List.map_toArray, List.map_cons, List.map_nil]); first | done | rfl) ?_; refine (markPushSS_calls w0 _ LC (numC LA) _ _ HK.out.c HK.out.c1 (by unfold numC; omega) (by have := HK.out.s; unfold numC; omega) HB.out HC.out).mono ?_; rintro e W1 ⟨rfl, hR, hB2, hK2⟩; refine ⟨_, rfl, ?_⟩; have n0_ := AZ.mk hR; have n1_ := AZ.mk (Kd.R_kept HA.out hK2 (fun k hk hn => absurd (hk.1.1.symm.trans hn.1.1) (by decide))); have n3_ := AZ.mk (Kd.S_kept HR.out hK2 (fun k hk hn => absurd (hk.1.1.symm.trans hn.1.1) (by decide))); have n4_ := AZ.mk (Kd.S_kept HI.out hK2 (fun k hk hn => absurd (hk.1.1.symm.trans hn.1.1) (by decide))); have n5_ := AZ.mk (show W1.heap[gb]? = some (.cells #[.int .i64 m, .int .i64 st, .slice A0 n0 c0, .slice A1 n1 c1, .slice A2 n2 c2, .slice A3 n3 c3] 27 (0, 0)) from (hK2.2 gb (blk_lt BK.out) (fun h => absurd h.1.2 (by have := GB.out; omega))).trans BK.out); have n6_ := AZ.mk hB2; have n7_ := AZ.mk ((hK2.2 g (blk_lt BG.out) (fun h => h.2 rfl)).trans BG.out); have n8_ := AZ.mk (Kept.then_ HKP.out hK2 (fun k hk => .inl hk.1.2)); clear HKP HA HC HR HI BK HB BG hc2 hc3 hc4 hc5 hR hB2 hK2; have HA := n1_; have HC := n0_; have HR := n3_; have HI := n4_; have BK := n5_; have HB := n6_; have BG := n7_; have HKP := n8_; clear n0_ n1_ n3_ n4_ n5_ n6_ n7_ n8_; have hc2 := (bc BK.out 2 : W1.cell? ⟨gb, 2, none⟩ = _).trans rfl; have hc3 := (bc BK.out 3 : W1.cell? ⟨gb, 3, none⟩ = _).trans rfl; have hc4 := (bc BK.out 4 : W1.cell? ⟨gb, 4, none⟩ = _).trans rfl; have hc5 := (bc BK.out 5 : W1.cell? ⟨gb, 5, none⟩ = _).trans rfl) | ((with_reducible refine gate_callee (f := 40) rfl ?_); refine goesL_ (some 16) rfl rfl Try.func40 (by kernel_rfl) rfl #[.slice A2 n2 c2, .int .i64 (numR LA LC)] rfl (by (try simp only [List.map_toArray, List.map_cons, List.map_nil]); first | done | rfl) ?_; refine (markInt64SSS_calls w0 _ LR (numR LA LC) _ _ HK.out.r HK.out.r1 (by unfold numR numC; omega) (by have := HK.out.s; unfold numR numC; omega) HB.out HR.out).mono ?_; rintro e W2 ⟨rfl, hR, hB2, hK2⟩; refine ⟨_, rfl, ?_⟩; have n0_ := AZ.mk hR; have n1_ := AZ.mk (Kd.R_kept HA.out hK2 (fun k hk hn => absurd (hk.1.1.symm.trans hn.1.1) (by decide))); have n2_ := AZ.mk (Kd.S_kept HC.out hK2 (fun k hk hn => absurd (hk.1.1.symm.trans hn.1.1) (by decide))); have n4_ := AZ.mk (Kd.S_kept HI.out hK2 (fun k hk hn => absurd (hk.1.1.symm.trans hn.1.1) (by decide))); have n5_ := AZ.mk (show W2.heap[gb]? = some (.cells #[.int .i64 m, .int .i64 st, .slice A0 n0 c0, .slice A1 n1 c1, .slice A2 n2 c2, .slice A3 n3 c3] 27 (0, 0)) from (hK2.2 gb (blk_lt BK.out) (fun h => absurd h.1.2 (by have := GB.out; omega))).trans BK.out); have n6_ := AZ.mk hB2; have n7_ := AZ.mk ((hK2.2 g (blk_lt BG.out) (fun h => h.2 rfl)).trans BG.out); have n8_ := AZ.mk (Kept.then_ HKP.out hK2 (fun k hk => .inl hk.1.2)); clear HKP HA HC HR HI BK HB BG hc2 hc3 hc4 hc5 hR hB2 hK2; have HA := n1_; have HC := n2_; have HR := n0_; have HI := n4_; have BK := n5_; have HB := n6_; have BG := n7_; have HKP := n8_; clear n0_ n1_ n2_ n4_ n5_ n6_ n7_ n8_; have hc2 := (bc BK.out 2 : W2.cell? ⟨gb, 2, none⟩ = _).trans rfl; have hc3 := (bc BK.out 3 : W2.cell? ⟨gb, 3, none⟩ = _).trans rfl; have hc4 := (bc BK.out 4 : W2.cell? ⟨gb, 4, none⟩ = _).trans rfl; have hc5 := (bc BK.out 5 : W2.cell? ⟨gb, 5, none⟩ = _).trans rfl) | ((with_reducible refine gate_callee (f := 41) rfl ?_); refine goesL_ (some 20) rfl rfl Try.func41 (by kernel_rfl) rfl #[.slice A3 n3 c3, .int .i64 (numI LA LC LR)] rfl (by (try simp only [List.map_toArray, List.map_cons, List.map_nil]); first | done | rfl) ?_; refine (markInt64SS_calls w0 _ LI (numI LA LC LR) _ _ HK.out.i (by unfold numI numR numC; omega) (by have := HK.out.s; unfold numI numR numC; omega) HB.out HI.out).mono ?_; rintro e W3 ⟨rfl, hR, hB2, hK2⟩; refine ⟨_, rfl, ?_⟩; have n0_ := AZ.mk hR; have n1_ := AZ.mk (Kd.R_kept HA.out hK2 (fun k hk hn => absurd (hk.1.1.symm.trans hn.1.1) (by decide))); have n2_ := AZ.mk (Kd.S_kept HC.out hK2 (fun k hk hn => absurd (hk.1.1.symm.trans hn.1.1) (by decide))); have n3_ := AZ.mk (Kd.S_kept HR.out hK2 (fun k hk hn => absurd (hk.1.1.symm.trans hn.1.1) (by decide))); have n5_ := AZ.mk (show W3.heap[gb]? = some (.cells #[.int .i64 m, .int .i64 st, .slice A0 n0 c0, .slice A1 n1 c1, .slice A2 n2 c2, .slice A3 n3 c3] 27 (0, 0)) from (hK2.2 gb (blk_lt BK.out) (fun h => absurd h.1.2 (by have := GB.out; omega))).trans BK.out); have n6_ := AZ.mk hB2; have n7_ := AZ.mk ((hK2.2 g (blk_lt BG.out) (fun h => h.2 rfl)).trans BG.out); have n8_ := AZ.mk (Kept.then_ HKP.out hK2 (fun k hk => .inl hk.1.2)); clear HKP HA HC HR HI BK HB BG hc2 hc3 hc4 hc5 hR hB2 hK2; have HA := n1_; have HC := n2_; have HR := n3_; have HI := n0_; have BK := n5_; have HB := n6_; have BG := n7_; have HKP := n8_; clear n0_ n1_ n2_ n3_ n5_ n6_ n7_ n8_; have hc2 := (bc BK.out 2 : W3.cell? ⟨gb, 2, none⟩ = _).trans rfl; have hc3 := (bc BK.out 3 : W3.cell? ⟨gb, 3, none⟩ = _).trans rfl; have hc4 := (bc BK.out 4 : W3.cell? ⟨gb, 4, none⟩ = _).trans rfl; have hc5 := (bc BK.out 5 : W3.cell? ⟨gb, 5, none⟩ = _).trans rfl))
 go_ret
 exact ⟨rfl, ⟨f, Kd.R_mono HA.out (fun _ hk => hk.1.1), Kd.S_mono HC.out (fun _ hk => hk.1.1), Kd.S_mono HR.out (fun _ hk => hk.1.1), Kd.S_mono HI.out (fun _ hk => hk.1.1)⟩, HB.out, BG.out, HKP.out⟩
end Go.Proofs.Ytepkfigcnnfoaaa.P
namespace Go.Proofs.Ytepkfigcnnfoaaa.P
open Go.RowKit Go.Proofs.YtepkfigcnnfoaaaW.PrintWords Go.Proofs.YtepkfigcnnfoaaaW.PrintLast Go.Proofs.YtepkfigcnnfoaaaW.PrintMore Go.Proofs.Ytepkfigcnnfoaaa.Deep
set_option linter.unusedVariables false
set_option linter.unusedSimpArgs false
set_option maxHeartbeats 4000000 in
set_option maxRecDepth 100000 in
theorem eqT_calls (k : Nat) (m st : Int) (l2 : List Bool) (l3 : List (List S47)) (l4 : List (List (List Int))) (l5 : List (List Int)) (A2 : Option Addr) (c2 : Nat) (A3 : Option Addr) (c3 : Nat) (A4 : Option Addr) (c4 : Nat) (A5 : Option Addr) (c5 : Nat) (B2 : Option Addr) (d2 : Nat) (B3 : Option Addr) (d3 : Nat) (B4 : Option Addr) (d4 : Nat) (B5 : Option Addr) (d5 : Nat) (w : World) (hA2 : Kd.C Kd.bool w A2 l2.length l2) (kA2 : l2.length ≤ c2) (hA3 : Kd.C (Kd.slice 47 k47) w A3 l3.length l3) (kA3 : l3.length ≤ c3) (hA4 : Kd.C (Kd.slice 49 (Kd.slice 2 (Kd.int .i64))) w A4 l4.length l4) (kA4 : l4.length ≤ c4) (hA5 : Kd.C (Kd.slice 2 (Kd.int .i64)) w A5 l5.length l5) (kA5 : l5.length ≤ c5) (hB2 : Kd.C Kd.bool w B2 l2.length l2) (kB2 : l2.length ≤ d2) (hB3 : Kd.C (Kd.slice 47 k47) w B3 l3.length l3) (kB3 : l3.length ≤ d3) (hB4 : Kd.C (Kd.slice 49 (Kd.slice 2 (Kd.int .i64))) w B4 l4.length l4) (kB4 : l4.length ≤ d4) (hB5 : Kd.C (Kd.slice 2 (Kd.int .i64)) w B5 l5.length l5) (kB5 : l5.length ≤ d5)
  (e2 : laws_eqBoolS.f k l2 l2 = some true) (e3 : laws_eqPushSS.f k l3 l3 = some true) (e4 : laws_eqInt64SSS.f k l4 l4 = some true) (e5 : laws_eqInt64SS.f k l5 l5 = some true) :
  Calls Try.prog 12 #[.agg #[.int .i64 m, .int .i64 st, .slice A2 l2.length c2, .slice A3 l3.length c3, .slice A4 l4.length c4, .slice A5 l5.length c5], .agg #[.int .i64 m, .int .i64 st, .slice B2 l2.length d2, .slice B3 l3.length d3, .slice B4 l4.length d4, .slice B5 l5.length d5]] w fun e w' => e = .returned (.bool true) ∧ Below w.heap.size w w' := by
 have hu27 := Try.underlying27
 have HB := AZ.mk (Below.refl w.heap.size w)
 have PA2 := AZ.mk hA2
 have QA2 := AZ.mk kA2
 have PB2 := AZ.mk hB2
 have QB2 := AZ.mk kB2
 have E2 := AZ.mk e2
 have PA3 := AZ.mk hA3
 have QA3 := AZ.mk kA3
 have PB3 := AZ.mk hB3
 have QB3 := AZ.mk kB3
 have E3 := AZ.mk e3
 have PA4 := AZ.mk hA4
 have QA4 := AZ.mk kA4
 have PB4 := AZ.mk hB4
 have QB4 := AZ.mk kB4
 have E4 := AZ.mk e4
 have PA5 := AZ.mk hA5
 have QA5 := AZ.mk kA5
 have PB5 := AZ.mk hB5
 have QB5 := AZ.mk kB5
 have E5 := AZ.mk e5
 clear hA2 kA2 hB2 kB2 e2 hA3 kA3 hB3 kB3 e3 hA4 kA4 hB4 kB4 e4 hA5 kA5 hB5 kB5 e5
 go_enter Try.func12, Try.ntmps12
 go_wp2_with (first | ((with_reducible refine gate_dst (N := 2) rfl ?_); refine box_event ?hg (N := 2) ?hd (cs := #[.int .i64 m, .int .i64 st, .slice A2 l2.length c2, .slice A3 l3.length c3, .slice A4 l4.length c4, .slice A5 l5.length c5]) (t := 27) ?hr ?_; (case hd => rfl); (case hg => rfl); (case hr => first | (go_simp; done) | (go_simp; rfl)); intro g1 hg Wg1 hbx hb; have K1 := AZ.mk hbx; have n_ := AZ.mk (pT HB.out hb); clear HB hb hbx hg; have HB := n_; clear n_) | ((with_reducible refine gate_dst (N := 3) rfl ?_); refine box_event ?hg (N := 3) ?hd (cs := #[.int .i64 m, .int .i64 st, .slice B2 l2.length d2, .slice B3 l3.length d3, .slice B4 l4.length d4, .slice B5 l5.length d5]) (t := 27) ?hr ?_; (case hd => rfl); (case hg => rfl); (case hr => first | (go_simp; done) | (go_simp; rfl)); intro g2 hg Wg2 hbx hb; have K2 := AZ.mk hbx; have n_ := AZ.mk (pT HB.out hb); have n2_ := AZ.mk (bb_ K1.out hb); clear HB hb hbx hg K1; have HB := n_; clear n_; have K1 := n2_; clear n2_; have p0 := (bc K1.out 0 : Wg2.cell? ⟨g1, 0, none⟩ = _).trans rfl; have p1 := (bc K1.out 1 : Wg2.cell? ⟨g1, 1, none⟩ = _).trans rfl; have p2 := (bc K1.out 2 : Wg2.cell? ⟨g1, 2, none⟩ = _).trans rfl; have p3 := (bc K1.out 3 : Wg2.cell? ⟨g1, 3, none⟩ = _).trans rfl; have p4 := (bc K1.out 4 : Wg2.cell? ⟨g1, 4, none⟩ = _).trans rfl; have p5 := (bc K1.out 5 : Wg2.cell? ⟨g1, 5, none⟩ = _).trans rfl; have q0 := (bc K2.out 0 : Wg2.cell? ⟨g2, 0, none⟩ = _).trans rfl; have q1 := (bc K2.out 1 : Wg2.cell? ⟨g2, 1, none⟩ = _).trans rfl; have q2 := (bc K2.out 2 : Wg2.cell? ⟨g2, 2, none⟩ = _).trans rfl; have q3 := (bc K2.out 3 : Wg2.cell? ⟨g2, 3, none⟩ = _).trans rfl; have q4 := (bc K2.out 4 : Wg2.cell? ⟨g2, 4, none⟩ = _).trans rfl; have q5 := (bc K2.out 5 : Wg2.cell? ⟨g2, 5, none⟩ = _).trans rfl) | ((with_reducible refine gate_callee (f := 34) rfl ?_); refine goesL_ (some 19) rfl rfl Try.func34 (by kernel_rfl) rfl #[.slice A2 l2.length c2, .slice B2 l2.length d2] rfl (by (try simp only [List.map_toArray, List.map_cons, List.map_nil]); first | done | rfl) ?_; refine (laws_eqBoolS.calls k _ _ l2 _ _ l2 true _ (Kd.C_below PA2.out HB.out) QA2.out (Kd.C_below PB2.out HB.out) QB2.out E2.out).mono ?_; rintro e V0 ⟨rfl, hb0⟩; refine ⟨_, rfl, ?_⟩; have hb := hb0.below; have n0_ := AZ.mk (pT HB.out hb); have n1_ := AZ.mk (bb_ K1.out hb); have n2_ := AZ.mk (bb_ K2.out hb); clear HB K1 K2 hb hb0; clear p0 p1 p2 p3 p4 p5 q0 q1 q2 q3 q4 q5; have HB := n0_; have K1 := n1_; have K2 := n2_; clear n0_ n1_ n2_; have p0 := (bc K1.out 0 : V0.cell? ⟨g1, 0, none⟩ = _).trans rfl; have p1 := (bc K1.out 1 : V0.cell? ⟨g1, 1, none⟩ = _).trans rfl; have p2 := (bc K1.out 2 : V0.cell? ⟨g1, 2, none⟩ = _).trans rfl; have p3 := (bc K1.out 3 : V0.cell? ⟨g1, 3, none⟩ = _).trans rfl; have p4 := (bc K1.out 4 : V0.cell? ⟨g1, 4, none⟩ = _).trans rfl; have p5 := (bc K1.out 5 : V0.cell? ⟨g1, 5, none⟩ = _).trans rfl; have q0 := (bc K2.out 0 : V0.cell? ⟨g2, 0, none⟩ = _).trans rfl; have q1 := (bc K2.out 1 : V0.cell? ⟨g2, 1, none⟩ = _).trans rfl; have q2 := (bc K2.out 2 : V0.cell? ⟨g2, 2, none⟩ = _).trans rfl; have q3 := (bc K2.out 3 : V0.cell? ⟨g2, 3, none⟩ = _).trans rfl; have q4 := (bc K2.out 4 : V0.cell? ⟨g2, 4, none⟩ = _).trans rfl; have q5 := (bc K2.out 5 : V0.cell? ⟨g2, 5, none⟩ = _).trans rfl) | ((with_reducible refine gate_callee (f := 35) rfl ?_); refine goesL_ (some 25) rfl rfl Try.func35 (by kernel_rfl) rfl #[.slice A3 l3.length c3, .slice B3 l3.length d3] rfl (by (try simp only [List.map_toArray, List.map_cons, List.map_nil]); first | done | rfl) ?_; refine (laws_eqPushSS.calls k _ _ l3 _ _ l3 true _ (Kd.C_below PA3.out HB.out) QA3.out (Kd.C_below PB3.out HB.out) QB3.out E3.out).mono ?_; rintro e V1 ⟨rfl, hb0⟩; refine ⟨_, rfl, ?_⟩; have hb := hb0; have n0_ := AZ.mk (pT HB.out hb); have n1_ := AZ.mk (bb_ K1.out hb); have n2_ := AZ.mk (bb_ K2.out hb); clear HB K1 K2 hb hb0; clear p0 p1 p2 p3 p4 p5 q0 q1 q2 q3 q4 q5; have HB := n0_; have K1 := n1_; have K2 := n2_; clear n0_ n1_ n2_; have p0 := (bc K1.out 0 : V1.cell? ⟨g1, 0, none⟩ = _).trans rfl; have p1 := (bc K1.out 1 : V1.cell? ⟨g1, 1, none⟩ = _).trans rfl; have p2 := (bc K1.out 2 : V1.cell? ⟨g1, 2, none⟩ = _).trans rfl; have p3 := (bc K1.out 3 : V1.cell? ⟨g1, 3, none⟩ = _).trans rfl; have p4 := (bc K1.out 4 : V1.cell? ⟨g1, 4, none⟩ = _).trans rfl; have p5 := (bc K1.out 5 : V1.cell? ⟨g1, 5, none⟩ = _).trans rfl; have q0 := (bc K2.out 0 : V1.cell? ⟨g2, 0, none⟩ = _).trans rfl; have q1 := (bc K2.out 1 : V1.cell? ⟨g2, 1, none⟩ = _).trans rfl; have q2 := (bc K2.out 2 : V1.cell? ⟨g2, 2, none⟩ = _).trans rfl; have q3 := (bc K2.out 3 : V1.cell? ⟨g2, 3, none⟩ = _).trans rfl; have q4 := (bc K2.out 4 : V1.cell? ⟨g2, 4, none⟩ = _).trans rfl; have q5 := (bc K2.out 5 : V1.cell? ⟨g2, 5, none⟩ = _).trans rfl) | ((with_reducible refine gate_callee (f := 36) rfl ?_); refine goesL_ (some 31) rfl rfl Try.func36 (by kernel_rfl) rfl #[.slice A4 l4.length c4, .slice B4 l4.length d4] rfl (by (try simp only [List.map_toArray, List.map_cons, List.map_nil]); first | done | rfl) ?_; refine (laws_eqInt64SSS.calls k _ _ l4 _ _ l4 true _ (Kd.C_below PA4.out HB.out) QA4.out (Kd.C_below PB4.out HB.out) QB4.out E4.out).mono ?_; rintro e V2 ⟨rfl, hb0⟩; refine ⟨_, rfl, ?_⟩; have hb := hb0.below; have n0_ := AZ.mk (pT HB.out hb); have n1_ := AZ.mk (bb_ K1.out hb); have n2_ := AZ.mk (bb_ K2.out hb); clear HB K1 K2 hb hb0; clear p0 p1 p2 p3 p4 p5 q0 q1 q2 q3 q4 q5; have HB := n0_; have K1 := n1_; have K2 := n2_; clear n0_ n1_ n2_; have p0 := (bc K1.out 0 : V2.cell? ⟨g1, 0, none⟩ = _).trans rfl; have p1 := (bc K1.out 1 : V2.cell? ⟨g1, 1, none⟩ = _).trans rfl; have p2 := (bc K1.out 2 : V2.cell? ⟨g1, 2, none⟩ = _).trans rfl; have p3 := (bc K1.out 3 : V2.cell? ⟨g1, 3, none⟩ = _).trans rfl; have p4 := (bc K1.out 4 : V2.cell? ⟨g1, 4, none⟩ = _).trans rfl; have p5 := (bc K1.out 5 : V2.cell? ⟨g1, 5, none⟩ = _).trans rfl; have q0 := (bc K2.out 0 : V2.cell? ⟨g2, 0, none⟩ = _).trans rfl; have q1 := (bc K2.out 1 : V2.cell? ⟨g2, 1, none⟩ = _).trans rfl; have q2 := (bc K2.out 2 : V2.cell? ⟨g2, 2, none⟩ = _).trans rfl; have q3 := (bc K2.out 3 : V2.cell? ⟨g2, 3, none⟩ = _).trans rfl; have q4 := (bc K2.out 4 : V2.cell? ⟨g2, 4, none⟩ = _).trans rfl; have q5 := (bc K2.out 5 : V2.cell? ⟨g2, 5, none⟩ = _).trans rfl) | ((with_reducible refine gate_callee (f := 37) rfl ?_); refine goesL_ (some 37) rfl rfl Try.func37 (by kernel_rfl) rfl #[.slice A5 l5.length c5, .slice B5 l5.length d5] rfl (by (try simp only [List.map_toArray, List.map_cons, List.map_nil]); first | done | rfl) ?_; refine (laws_eqInt64SS.calls k _ _ l5 _ _ l5 true _ (Kd.C_below PA5.out HB.out) QA5.out (Kd.C_below PB5.out HB.out) QB5.out E5.out).mono ?_; rintro e V3 ⟨rfl, hb0⟩; refine ⟨_, rfl, ?_⟩; have hb := hb0.below; have n0_ := AZ.mk (pT HB.out hb); have n1_ := AZ.mk (bb_ K1.out hb); have n2_ := AZ.mk (bb_ K2.out hb); clear HB K1 K2 hb hb0; clear p0 p1 p2 p3 p4 p5 q0 q1 q2 q3 q4 q5; have HB := n0_; have K1 := n1_; have K2 := n2_; clear n0_ n1_ n2_; have p0 := (bc K1.out 0 : V3.cell? ⟨g1, 0, none⟩ = _).trans rfl; have p1 := (bc K1.out 1 : V3.cell? ⟨g1, 1, none⟩ = _).trans rfl; have p2 := (bc K1.out 2 : V3.cell? ⟨g1, 2, none⟩ = _).trans rfl; have p3 := (bc K1.out 3 : V3.cell? ⟨g1, 3, none⟩ = _).trans rfl; have p4 := (bc K1.out 4 : V3.cell? ⟨g1, 4, none⟩ = _).trans rfl; have p5 := (bc K1.out 5 : V3.cell? ⟨g1, 5, none⟩ = _).trans rfl; have q0 := (bc K2.out 0 : V3.cell? ⟨g2, 0, none⟩ = _).trans rfl; have q1 := (bc K2.out 1 : V3.cell? ⟨g2, 1, none⟩ = _).trans rfl; have q2 := (bc K2.out 2 : V3.cell? ⟨g2, 2, none⟩ = _).trans rfl; have q3 := (bc K2.out 3 : V3.cell? ⟨g2, 3, none⟩ = _).trans rfl; have q4 := (bc K2.out 4 : V3.cell? ⟨g2, 4, none⟩ = _).trans rfl; have q5 := (bc K2.out 5 : V3.cell? ⟨g2, 5, none⟩ = _).trans rfl))
 go_ret
 exact ⟨rfl, HB.out⟩
set_option maxHeartbeats 4000000 in
set_option maxRecDepth 100000 in
theorem heldT_calls (k : Nat) (m st t0 t1 t2 t3 t4 : Int) (l2 : List Bool) (l3 : List (List S47)) (l4 : List (List (List Int))) (l5 : List (List Int)) (A2 : Option Addr) (c2 : Nat) (A3 : Option Addr) (c3 : Nat) (A4 : Option Addr) (c4 : Nat) (A5 : Option Addr) (c5 : Nat) (w : World) (hA2 : Kd.C Kd.bool w A2 l2.length l2) (kA2 : l2.length ≤ c2) (hA3 : Kd.C (Kd.slice 47 k47) w A3 l3.length l3) (kA3 : l3.length ≤ c3) (hA4 : Kd.C (Kd.slice 49 (Kd.slice 2 (Kd.int .i64))) w A4 l4.length l4) (kA4 : l4.length ≤ c4) (hA5 : Kd.C (Kd.slice 2 (Kd.int .i64)) w A5 l5.length l5) (kA5 : l5.length ≤ c5)
  (e2 : laws_heldBoolS.f k l2 t0 = some t1) (e3 : laws_heldPushSS.f k l3 t1 = some t2) (e4 : laws_heldInt64SSS.f k l4 t2 = some t3) (e5 : laws_heldInt64SS.f k l5 t3 = some t4) (n1 : ¬ t1 < 0) (n2 : ¬ t2 < 0) (n3 : ¬ t3 < 0) (n4 : ¬ t4 < 0) :
  Calls Try.prog 14 #[.agg #[.int .i64 m, .int .i64 st, .slice A2 l2.length c2, .slice A3 l3.length c3, .slice A4 l4.length c4, .slice A5 l5.length c5], .int .i64 t0] w fun e w' => e = .returned (.int .i64 t4) ∧ Below w.heap.size w w' := by
 have hu27 := Try.underlying27
 have HB := AZ.mk (Below.refl w.heap.size w)
 have PA2 := AZ.mk hA2
 have QA2 := AZ.mk kA2
 have E2 := AZ.mk e2
 have PA3 := AZ.mk hA3
 have QA3 := AZ.mk kA3
 have E3 := AZ.mk e3
 have PA4 := AZ.mk hA4
 have QA4 := AZ.mk kA4
 have E4 := AZ.mk e4
 have PA5 := AZ.mk hA5
 have QA5 := AZ.mk kA5
 have E5 := AZ.mk e5
 have z1 : decide (t1 < 0) = false := decide_eq_false n1
 have z2 : decide (t2 < 0) = false := decide_eq_false n2
 have z3 : decide (t3 < 0) = false := decide_eq_false n3
 have z4 : decide (t4 < 0) = false := decide_eq_false n4
 clear n1 n2 n3 n4 hA2 kA2 e2 hA3 kA3 e3 hA4 kA4 e4 hA5 kA5 e5
 go_enter Try.func14, Try.ntmps14
 go_wp2_with (first | ((with_reducible refine gate_dst (N := 2) rfl ?_); refine box_event ?hg (N := 2) ?hd (cs := #[.int .i64 m, .int .i64 st, .slice A2 l2.length c2, .slice A3 l3.length c3, .slice A4 l4.length c4, .slice A5 l5.length c5]) (t := 27) ?hr ?_; (case hd => rfl); (case hg => rfl); (case hr => first | (go_simp; done) | (go_simp; rfl)); intro g1 hg Wg1 hbx hb; have K1 := AZ.mk hbx; have n_ := AZ.mk (pT HB.out hb); clear HB hb hbx hg; have HB := n_; clear n_; have p0 := (bc K1.out 0 : Wg1.cell? ⟨g1, 0, none⟩ = _).trans rfl; have p1 := (bc K1.out 1 : Wg1.cell? ⟨g1, 1, none⟩ = _).trans rfl; have p2 := (bc K1.out 2 : Wg1.cell? ⟨g1, 2, none⟩ = _).trans rfl; have p3 := (bc K1.out 3 : Wg1.cell? ⟨g1, 3, none⟩ = _).trans rfl; have p4 := (bc K1.out 4 : Wg1.cell? ⟨g1, 4, none⟩ = _).trans rfl; have p5 := (bc K1.out 5 : Wg1.cell? ⟨g1, 5, none⟩ = _).trans rfl) | ((with_reducible refine gate_callee (f := 42) rfl ?_); refine goesL_ (some 8) rfl rfl Try.func42 (by kernel_rfl) rfl #[.slice A2 l2.length c2, .int .i64 t0] rfl (by (try simp only [List.map_toArray, List.map_cons, List.map_nil]); first | done | rfl) ?_; refine (laws_heldBoolS.calls k _ _ l2 t0 t1 _ (Kd.C_below PA2.out HB.out) QA2.out E2.out).mono ?_; rintro e V0 ⟨rfl, hb0⟩; refine ⟨_, rfl, ?_⟩; have hb := hb0.below; have n0_ := AZ.mk (pT HB.out hb); have n1_ := AZ.mk (bb_ K1.out hb); clear HB K1 hb hb0; clear p0 p1 p2 p3 p4 p5; have HB := n0_; have K1 := n1_; clear n0_ n1_; have p0 := (bc K1.out 0 : V0.cell? ⟨g1, 0, none⟩ = _).trans rfl; have p1 := (bc K1.out 1 : V0.cell? ⟨g1, 1, none⟩ = _).trans rfl; have p2 := (bc K1.out 2 : V0.cell? ⟨g1, 2, none⟩ = _).trans rfl; have p3 := (bc K1.out 3 : V0.cell? ⟨g1, 3, none⟩ = _).trans rfl; have p4 := (bc K1.out 4 : V0.cell? ⟨g1, 4, none⟩ = _).trans rfl; have p5 := (bc K1.out 5 : V0.cell? ⟨g1, 5, none⟩ = _).trans rfl) | ((with_reducible refine gate_callee (f := 43) rfl ?_); refine goesL_ (some 14) rfl rfl Try.func43 (by kernel_rfl) rfl #[.slice A3 l3.length c3, .int .i64 t1] rfl (by (try simp only [List.map_toArray, List.map_cons, List.map_nil]); first | done | rfl) ?_; refine (laws_heldPushSS.calls k _ _ l3 t1 t2 _ (Kd.C_below PA3.out HB.out) QA3.out E3.out).mono ?_; rintro e V1 ⟨rfl, hb0⟩; refine ⟨_, rfl, ?_⟩; have hb := hb0.below; have n0_ := AZ.mk (pT HB.out hb); have n1_ := AZ.mk (bb_ K1.out hb); clear HB K1 hb hb0; clear p0 p1 p2 p3 p4 p5; have HB := n0_; have K1 := n1_; clear n0_ n1_; have p0 := (bc K1.out 0 : V1.cell? ⟨g1, 0, none⟩ = _).trans rfl; have p1 := (bc K1.out 1 : V1.cell? ⟨g1, 1, none⟩ = _).trans rfl; have p2 := (bc K1.out 2 : V1.cell? ⟨g1, 2, none⟩ = _).trans rfl; have p3 := (bc K1.out 3 : V1.cell? ⟨g1, 3, none⟩ = _).trans rfl; have p4 := (bc K1.out 4 : V1.cell? ⟨g1, 4, none⟩ = _).trans rfl; have p5 := (bc K1.out 5 : V1.cell? ⟨g1, 5, none⟩ = _).trans rfl) | ((with_reducible refine gate_callee (f := 44) rfl ?_); refine goesL_ (some 20) rfl rfl Try.func44 (by kernel_rfl) rfl #[.slice A4 l4.length c4, .int .i64 t2] rfl (by (try simp only [List.map_toArray, List.map_cons, List.map_nil]); first | done | rfl) ?_; refine (laws_heldInt64SSS.calls k _ _ l4 t2 t3 _ (Kd.C_below PA4.out HB.out) QA4.out E4.out).mono ?_; rintro e V2 ⟨rfl, hb0⟩; refine ⟨_, rfl, ?_⟩; have hb := hb0.below; have n0_ := AZ.mk (pT HB.out hb); have n1_ := AZ.mk (bb_ K1.out hb); clear HB K1 hb hb0; clear p0 p1 p2 p3 p4 p5; have HB := n0_; have K1 := n1_; clear n0_ n1_; have p0 := (bc K1.out 0 : V2.cell? ⟨g1, 0, none⟩ = _).trans rfl; have p1 := (bc K1.out 1 : V2.cell? ⟨g1, 1, none⟩ = _).trans rfl; have p2 := (bc K1.out 2 : V2.cell? ⟨g1, 2, none⟩ = _).trans rfl; have p3 := (bc K1.out 3 : V2.cell? ⟨g1, 3, none⟩ = _).trans rfl; have p4 := (bc K1.out 4 : V2.cell? ⟨g1, 4, none⟩ = _).trans rfl; have p5 := (bc K1.out 5 : V2.cell? ⟨g1, 5, none⟩ = _).trans rfl) | ((with_reducible refine gate_callee (f := 45) rfl ?_); refine goesL_ (some 26) rfl rfl Try.func45 (by kernel_rfl) rfl #[.slice A5 l5.length c5, .int .i64 t3] rfl (by (try simp only [List.map_toArray, List.map_cons, List.map_nil]); first | done | rfl) ?_; refine (laws_heldInt64SS.calls k _ _ l5 t3 t4 _ (Kd.C_below PA5.out HB.out) QA5.out E5.out).mono ?_; rintro e V3 ⟨rfl, hb0⟩; refine ⟨_, rfl, ?_⟩; have hb := hb0.below; have n0_ := AZ.mk (pT HB.out hb); have n1_ := AZ.mk (bb_ K1.out hb); clear HB K1 hb hb0; clear p0 p1 p2 p3 p4 p5; have HB := n0_; have K1 := n1_; clear n0_ n1_; have p0 := (bc K1.out 0 : V3.cell? ⟨g1, 0, none⟩ = _).trans rfl; have p1 := (bc K1.out 1 : V3.cell? ⟨g1, 1, none⟩ = _).trans rfl; have p2 := (bc K1.out 2 : V3.cell? ⟨g1, 2, none⟩ = _).trans rfl; have p3 := (bc K1.out 3 : V3.cell? ⟨g1, 3, none⟩ = _).trans rfl; have p4 := (bc K1.out 4 : V3.cell? ⟨g1, 4, none⟩ = _).trans rfl; have p5 := (bc K1.out 5 : V3.cell? ⟨g1, 5, none⟩ = _).trans rfl))
 go_ret
 exact ⟨rfl, HB.out⟩
end Go.Proofs.Ytepkfigcnnfoaaa.P
namespace Go.Proofs.Ytepkfigcnnfoaaa.P
open Go.RowKit Go.Proofs.YtepkfigcnnfoaaaW.PrintWords Go.Proofs.YtepkfigcnnfoaaaW.PrintLast Go.Proofs.YtepkfigcnnfoaaaW.PrintMore Go.Proofs.Ytepkfigcnnfoaaa.Deep
set_option linter.unusedVariables false
set_option linter.unusedSimpArgs false
section
variable {w w' : World} {B : Nat} {vA vC vR vI vA' vC' vR' vI' : Value} {LA : List Bool} {LC : List (List S47)} {LR : List (List (List Int))} {LI : List (List Int)}
theorem and_some {f : Option Bool} {g : Option Bool} (h : (f.bind fun t => if t = true then g else some false) = some true) : f = some true ∧ g = some true := by
 cases f with
 | none => cases h
 | some t => cases t with
  | false => simp at h
  | true => exact ⟨rfl, by simpa using h⟩
theorem eqS_calls (k : Nat) (m st : Int) (h : Reads w vA vC vR vI LA LC LR LI) (h' : Reads w vA' vC' vR' vI' LA LC LR LI) (hf : laws_eqChecker.f k m st LA LC LR LI m st LA LC LR LI = some true) :
  Calls Try.prog 12 #[.agg #[.int .i64 m, .int .i64 st, vA, vC, vR, vI], .agg #[.int .i64 m, .int .i64 st, vA', vC', vR', vI']] w fun e w' => e = .returned (.bool true) ∧ Below w.heap.size w w' := by
 obtain ⟨⟨A0, c0, rfl, l0, g0⟩, ⟨A1, c1, rfl, l1, g1⟩, ⟨A2, c2, rfl, l2, g2⟩, ⟨A3, c3, rfl, l3, g3⟩⟩ := h
 obtain ⟨⟨B0, d0, rfl, q0, p0⟩, ⟨B1, d1, rfl, q1, p1⟩, ⟨B2, d2, rfl, q2, p2⟩, ⟨B3, d3, rfl, q3, p3⟩⟩ := h'
 unfold laws_eqChecker.f at hf
 rw [if_pos rfl, if_pos rfl] at hf
 obtain ⟨e2, hf⟩ := and_some hf
 obtain ⟨e3, hf⟩ := and_some hf
 obtain ⟨e4, hf⟩ := and_some hf
 obtain ⟨e5, _⟩ := and_some hf
 exact eqT_calls k m st LA LC LR LI A0 c0 A1 c1 A2 c2 A3 c3 B0 d0 B1 d1 B2 d2 B3 d3 w g0 l0 g1 l1 g2 l2 g3 l3 p0 q0 p1 q1 p2 q2 p3 q3 e2 e3 e4 e5
theorem heldS_calls (m st : Int) (h : okC LA LC LR LI) (hr : Reads w vA vC vR vI (markA LA) (mks szP mkP LC (numC LA)) (mks szII mkII LR (numR LA LC)) (mkII LI (numI LA LC LR))) :
  Calls Try.prog 14 #[.agg #[.int .i64 m, .int .i64 st, vA, vC, vR, vI], .int .i64 1] w fun e w' => e = .returned (.int .i64 (numE LA LC LR LI)) ∧ Below w.heap.size w w' := by
 obtain ⟨⟨A0, c0, rfl, l0, g0⟩, ⟨A1, c1, rfl, l1, g1⟩, ⟨A2, c2, rfl, l2, g2⟩, ⟨A3, c3, rfl, l3, g3⟩⟩ := hr
 obtain ⟨ha, hc, hc1, hr, hr1, hi, hs⟩ := h
 have e1 : laws_heldBoolS.f 7000000 (markA LA) 1 = some (numC LA) := by
  have := heldB LA.length ha 1 (by omega) (by omega) LA.length 0 7000000 (by omega) (by omega)
  simpa [laws_heldBoolS.f, markA, numC] using this
 have e2 := heldPP LC hc hc1 (numC LA) (by unfold numC; omega) (by unfold numC; omega) 7000000 (by omega)
 have e3 := heldIII LR hr hr1 (numR LA LC) (by unfold numR numC; omega) (by unfold numR numC; omega) 7000000 (by omega)
 have e4 := heldII LI hi (numI LA LC LR) (by unfold numI numR numC; omega) (by have : szII LI = tot szI LI := rfl; unfold numI numR numC; omega) 7000000 (by omega)
 exact heldT_calls 7000000 m st 1 (numC LA) (numR LA LC) (numI LA LC LR) (numE LA LC LR LI) _ _ _ _ A0 c0 A1 c1 A2 c2 A3 c3 w g0 l0 g1 l1 g2 l2 g3 l3 e1 e2 e3 e4 (by unfold numC; omega) (by unfold numR numC; omega) (by unfold numI numR numC; omega) (by unfold numE numI numR numC; omega)
end
end Go.Proofs.Ytepkfigcnnfoaaa.P
namespace Go.Proofs.Ytepkfigcnnfoaaa.P
open Go.RowKit Go.Proofs.YtepkfigcnnfoaaaW.PrintWords Go.Proofs.YtepkfigcnnfoaaaW.PrintLast Go.Proofs.YtepkfigcnnfoaaaW.PrintMore Go.Proofs.Ytepkfigcnnfoaaa.Deep
set_option linter.unusedVariables false
set_option linter.unusedSimpArgs false
section
variable {ops : Array Oper} {rest : List Oper} {o : Oper} {a : Act} {Q : Exit → Act → World → Prop} {W : World} {K : Act → World → Prop}
theorem size39 : (Try.prog.info? 39).map (·.size) = some 6 := by kernel_rfl
theorem load39 (hgd : o.guard = none) (p : Tmp) (ho : o.op = .load 39 (.tmp p)) {g : Nat} {cs : Array Value} (hx : a.eval (.tmp p) = .pointer (some ⟨g, 0, none⟩)) (hb : W.heap[g]? = some (.cells cs 39 (0, 0))) (hs : cs.size = 6)
  (h : wpList Try.prog ops Q rest (a.put o.dst (.agg cs)) W) : wpList Try.prog ops Q (o :: rest) a W := by
 refine wpList_plain hgd fun K hK => wp_load_row 39 _ ho g hx 39 cs (0, 0) _ hb Try.underlying39 rfl (by rw [size39, hs]) ?_
 exact hK _ _ h
theorem load27_step (hw : Region.wanted o (yielded ops a.tmps) = true) {N : Tmp} (hN : o.dst = some N) (p : Tmp) (ho : o.op = .load 27 (.tmp p)) {g : Nat} {cs : Array Value} (hx : a.eval (.tmp p) = .pointer (some ⟨g, 0, none⟩)) (hb : W.heap[g]? = some (.cells cs 27 (0, 0))) (hs : cs.size = 6)
  (h : K (a.put (some N) (.agg cs)) W) : if Region.wanted o (yielded ops a.tmps) = true then Oper.wp Try.prog o a W K Q else K (a.put (some N) undef) W := by
 rw [if_pos hw]
 refine wp_load_row 27 _ ho g hx 27 cs (0, 0) _ hb Try.underlying27 rfl (by rw [size27, hs]) ?_
 rw [hN]
 exact h
theorem load39_step (hw : Region.wanted o (yielded ops a.tmps) = true) {N : Tmp} (hN : o.dst = some N) (p : Tmp) (ho : o.op = .load 39 (.tmp p)) {g : Nat} {cs : Array Value} (hx : a.eval (.tmp p) = .pointer (some ⟨g, 0, none⟩)) (hb : W.heap[g]? = some (.cells cs 39 (0, 0))) (hs : cs.size = 6)
  (h : K (a.put (some N) (.agg cs)) W) : if Region.wanted o (yielded ops a.tmps) = true then Oper.wp Try.prog o a W K Q else K (a.put (some N) undef) W := by
 rw [if_pos hw]
 refine wp_load_row 39 _ ho g hx 39 cs (0, 0) _ hb Try.underlying39 rfl (by rw [size39, hs]) ?_
 rw [hN]
 exact h
end
def opp.T10 : Bool × List (List Nat × List Nat) := (true, [([], []), ([], []), ([1], [1]), ([0, 2, 2], [0, 2]), ([3], [3])])
def opp.B10 : List Nat := [0, 0, 2, 7, 15]
theorem opp.tab10 : rtab .any (opsOf Try.f7 10) = opp.T10 := by kernel_rfl
theorem opp.bits10 : waitsOk opp.T10.2 opp.B10 = true := by kernel_rfl
namespace Opp
set_option maxHeartbeats 8000000 in
set_option maxRecDepth 100000 in
theorem walk_out (pa pb : Int) (A2 : Option Addr) (c2 : Nat) (l2 : List Bool) (A3 : Option Addr) (c3 : Nat) (l3 : List (List S101)) (A4 : Option Addr) (c4 : Nat) (l4 : List (List (List Int))) (A5 : Option Addr) (c5 : Nat) (l5 : List (List Int)) (w : World) (z : Int) (hz0 : z < 0)
  (hz : ∀ W, Below w.heap.size w W → Calls Try.prog 21 #[.agg #[.int .i64 pa, .int .i64 pb, .slice A2 l2.length c2, .slice A3 l3.length c3, .slice A4 l4.length c4, .slice A5 l5.length c5], .int .i64 1048576] W fun e W' => e = .returned (.int .i64 z) ∧ Below W.heap.size W W') :
  Calls Try.prog 7 #[.agg #[.int .i64 pa, .int .i64 pb, .slice A2 l2.length c2, .slice A3 l3.length c3, .slice A4 l4.length c4, .slice A5 l5.length c5]] w fun e w' => e = .returned (.bool true) ∧ Below w.heap.size w w' := by
 have HB := AZ.mk (Below.refl w.heap.size w)
 have HZ := AZ.mk hz
 have dz : decide (z < 0) = true := decide_eq_true hz0
 clear hz hz0
 go_enter Try.func7, Try.ntmps7
 go_wp2_with (first | ((with_reducible refine gate_dst (N := 1) rfl ?_); refine box_event ?hg (N := 1) ?hd (cs := #[.int .i64 pa, .int .i64 pb, .slice A2 l2.length c2, .slice A3 l3.length c3, .slice A4 l4.length c4, .slice A5 l5.length c5]) (t := 39) ?hr ?_; (case hd => rfl); (case hg => rfl); (case hr => first | (go_simp; done) | (go_simp; rfl)); intro b0 hg Wb0 hbx hb; have B0 := AZ.mk hbx; have GHBb0 := AZ.mk (show _ ≤ b0 by rw [hg]; exact pZ HB.out); have n0_ := AZ.mk (pT HB.out hb); clear HB; have HB := n0_; clear n0_; clear hb hbx hg) | ((with_reducible refine gate_dst (N := 14) rfl ?_); refine load39 rfl 1 rfl (g := b0) rfl B0.out rfl ?_) | ((with_reducible refine gate_callee (f := 21) rfl ?_); refine goesL_ (some 16) rfl rfl Try.func21 (by kernel_rfl) rfl #[.agg #[.int .i64 pa, .int .i64 pb, .slice A2 l2.length c2, .slice A3 l3.length c3, .slice A4 l4.length c4, .slice A5 l5.length c5], .int .i64 1048576] rfl (by (try simp only [List.map_toArray, List.map_cons, List.map_nil]); first | done | rfl) ?_; refine (HZ.out _ HB.out).mono ?_; rintro e W0 ⟨rfl, hb⟩; refine ⟨_, rfl, ?_⟩; have n0_ := AZ.mk (pT HB.out hb); have n1_ := AZ.mk (bb_ B0.out hb); clear HB B0; have HB := n0_; have B0 := n1_; clear n0_ n1_; clear hb))
 go_ret
 exact ⟨rfl, HB.out⟩
set_option maxHeartbeats 16000000 in
set_option maxRecDepth 100000 in
theorem walkin (pa pb : Int) (A2 : Option Addr) (c2 : Nat) (l2 : List Bool) (A3 : Option Addr) (c3 : Nat) (l3 : List (List S101)) (A4 : Option Addr) (c4 : Nat) (l4 : List (List (List Int))) (A5 : Option Addr) (c5 : Nat) (l5 : List (List Int)) (w : World) (z : Int) (hz0 : ¬ z < 0) (l3' : List (List S47)) (gm gs gk : Int) (gA' : List Bool) (gC' : List (List S47)) (gR' : List (List (List Int))) (gI' : List (List Int)) (kq : Nat)
  (hz : ∀ W, Below w.heap.size w W → Calls Try.prog 21 #[.agg #[.int .i64 pa, .int .i64 pb, .slice A2 l2.length c2, .slice A3 l3.length c3, .slice A4 l4.length c4, .slice A5 l5.length c5], .int .i64 1048576] W fun e W' => e = .returned (.int .i64 z) ∧ Below W.heap.size W W')
  (ht : ∀ W, Below w.heap.size w W → Calls Try.prog 23 #[.agg #[.int .i64 pa, .int .i64 pb, .slice A2 l2.length c2, .slice A3 l3.length c3, .slice A4 l4.length c4, .slice A5 l5.length c5]] W fun e W' => ∃ vA vC vR vI : Value, e = .returned (.agg #[.int .i64 pa, .int .i64 pb, vA, vC, vR, vI]) ∧ OwnC W' W.heap.size vA vC vR vI l2 l3' l4 l5 ∧ Below W.heap.size W W')
  (hs : ∀ (W : World) (vA vC vR vI : Value), Reads W vA vC vR vI l2 l3' l4 l5 → Calls Try.prog 22 #[.agg (cellsI pa pb vA vC vR vI)] W fun e W' => ∃ uA uC uR uI : Value, e = .returned (.tuple #[.agg #[.int .i64 gm, .int .i64 gs, uA, uC, uR, uI], .int .i64 gk]) ∧ Reads W' uA uC uR uI gA' gC' gR' gI' ∧ Below W.heap.size W W')
  (hi : ∀ (W : World) (vA vC vR vI : Value), Reads W vA vC vR vI l2 l3' l4 l5 → Calls Try.prog 24 #[.agg (cellsI pa pb vA vC vR vI)] W fun e W' => ∃ uA uC uR uI : Value, e = .returned (.tuple #[.agg #[.int .i64 gm, .int .i64 gs, uA, uC, uR, uI], .int .i64 gk]) ∧ OwnC W' W.heap.size uA uC uR uI gA' gC' gR' gI' ∧ Below W.heap.size W W')
  (okx : okC l2 l3' l4 l5) (okg : okC gA' gC' gR' gI') (eqx : laws_eqChecker.f kq pa pb l2 l3' l4 l5 pa pb l2 l3' l4 l5 = some true) (eqg : laws_eqChecker.f kq gm gs gA' gC' gR' gI' gm gs gA' gC' gR' gI' = some true) :
  Calls Try.prog 7 #[.agg #[.int .i64 pa, .int .i64 pb, .slice A2 l2.length c2, .slice A3 l3.length c3, .slice A4 l4.length c4, .slice A5 l5.length c5]] w fun e w' => e = .returned (.bool true) ∧ Below w.heap.size w w' := by
 have hu27 := Try.underlying27
 have HB := AZ.mk (Below.refl w.heap.size w)
 have HZ := AZ.mk hz
 have HT := AZ.mk ht
 have HS := AZ.mk hs
 have HI := AZ.mk hi
 have OKX := AZ.mk okx
 have OKG := AZ.mk okg
 have EQX := AZ.mk eqx
 have EQG := AZ.mk eqg
 obtain ⟨qx, hqx⟩ : ∃ q, q = numE l2 l3' l4 l5 := ⟨_, rfl⟩
 obtain ⟨qg, hqg⟩ : ∃ q, q = numE gA' gC' gR' gI' := ⟨_, rfl⟩
 have HQX := AZ.mk hqx
 have HQG := AZ.mk hqg
 have dx : decide (qx < 0) = false := decide_eq_false (by rw [hqx]; exact Int.not_lt.2 numE_pos)
 have dg : decide (qg < 0) = false := decide_eq_false (by rw [hqg]; exact Int.not_lt.2 numE_pos)
 have dz : decide (z < 0) = false := decide_eq_false hz0
 clear hz hz0 ht hs hi okx okg eqx eqg hqx hqg
 go_enter Try.func7, Try.ntmps7
 go_wp2_with (first | ((with_reducible refine gate_dst (N := 1) rfl ?_); refine box_event ?hg (N := 1) ?hd (cs := #[.int .i64 pa, .int .i64 pb, .slice A2 l2.length c2, .slice A3 l3.length c3, .slice A4 l4.length c4, .slice A5 l5.length c5]) (t := 39) ?hr ?_; (case hd => rfl); (case hg => rfl); (case hr => first | (go_simp; done) | (go_simp; rfl)); intro b0 hg Wb0 hbx hb; have B0 := AZ.mk hbx; have GHBb0 := AZ.mk (show _ ≤ b0 by rw [hg]; exact pZ HB.out); have n0_ := AZ.mk (pT HB.out hb); clear HB; have HB := n0_; clear n0_; clear hb hbx hg) | ((with_reducible refine gate_dst (N := 14) rfl ?_); refine load39 rfl 1 rfl (g := b0) rfl B0.out rfl ?_) | ((with_reducible refine gate_callee (f := 21) rfl ?_); refine goesL_ (some 16) rfl rfl Try.func21 (by kernel_rfl) rfl #[.agg #[.int .i64 pa, .int .i64 pb, .slice A2 l2.length c2, .slice A3 l3.length c3, .slice A4 l4.length c4, .slice A5 l5.length c5], .int .i64 1048576] rfl (by (try simp only [List.map_toArray, List.map_cons, List.map_nil]); first | done | rfl) ?_; refine (HZ.out _ HB.out).mono ?_; rintro e W0 ⟨rfl, hb⟩; refine ⟨_, rfl, ?_⟩; have n0_ := AZ.mk (pT HB.out hb); have n1_ := AZ.mk (bb_ B0.out hb); clear HB B0; have HB := n0_; have B0 := n1_; clear n0_ n1_; clear hb) | ((with_reducible refine gate_dst (N := 20) rfl ?_); refine load39 rfl 1 rfl (g := b0) rfl B0.out rfl ?_) | ((with_reducible refine gate_callee (f := 23) rfl ?_); refine goesL_ (some 21) rfl rfl Try.func23 (by kernel_rfl) rfl #[.agg #[.int .i64 pa, .int .i64 pb, .slice A2 l2.length c2, .slice A3 l3.length c3, .slice A4 l4.length c4, .slice A5 l5.length c5]] rfl (by (try simp only [List.map_toArray, List.map_cons, List.map_nil]); first | done | rfl) ?_; refine (HT.out _ HB.out).mono ?_; rintro e Wt ⟨tA, tC, tR, tI, rfl, hO, hb⟩; refine ⟨_, rfl, ?_⟩; have OT := AZ.mk hO; clear hO; have n0_ := AZ.mk (pT HB.out hb); have n1_ := AZ.mk (bb_ B0.out hb); clear HB B0; have HB := n0_; have B0 := n1_; clear n0_ n1_; clear hb) | ((with_reducible refine gate_callee (f := 22) rfl ?_); refine goesL_ (some 22) rfl rfl Try.func22 (by kernel_rfl) rfl #[.agg (cellsI pa pb tA tC tR tI)] rfl (by (try simp only [List.map_toArray, List.map_cons, List.map_nil]); first | done | rfl) ?_; refine (HS.out _ _ _ _ _ (Reads.own OT.out)).mono ?_; rintro e W1 ⟨wA, wC, wR, wI, rfl, hr, hb⟩; refine ⟨_, rfl, ?_⟩; have RW := AZ.mk hr; have L1 := AZ.mk (Below.refl W1.heap.size W1); clear hr; have n0_ := AZ.mk (pT HB.out hb); have n1_ := AZ.mk (bb_ B0.out hb); clear HB B0; have HB := n0_; have B0 := n1_; clear n0_ n1_; clear hb) | ((with_reducible refine gate_dst (N := 4) rfl ?_); refine box_event ?hg (N := 4) ?hd (cs := cZ) (t := 27) ?hr ?_; (case hd => rfl); (case hg => rfl); (case hr => first | (go_simp; done) | (go_simp; rfl)); intro b1 hg Wb1 hbx hb; have B1 := AZ.mk hbx; have GHBb1 := AZ.mk (show _ ≤ b1 by rw [hg]; exact pZ HB.out); have GL1b1 := AZ.mk (show _ ≤ b1 by rw [hg]; exact pZ L1.out); have NEB0b1 := AZ.mk (show b0 ≠ b1 by rw [hg]; exact Nat.ne_of_lt (blk_lt B0.out)); have n0_ := AZ.mk (pT HB.out hb); have n1_ := AZ.mk (pT L1.out hb); have n2_ := AZ.mk (bb_ B0.out hb); clear HB L1 B0; have HB := n0_; have L1 := n1_; have B0 := n2_; clear n0_ n1_ n2_; clear hb hbx hg) | ((with_reducible refine gate_ (.store 27 (.tmp 4) (.tmp 23)) rfl ?_); refine store27 rfl 4 23 rfl (g := b1) (old := cZ) (cs := cellsI gm gs wA wC wR wI) rfl rfl B1.out rfl rfl (cellsI_one _ _ (RW.out)) ?_; intro Xb1 hbx hB hfar; clear B1; have B1 := AZ.mk hbx; have n0_ := AZ.mk (hB _ _ HB.out GHBb1.out); have n1_ := AZ.mk (hB _ _ L1.out GL1b1.out); have n2_ := AZ.mk ((hfar _ NEB0b1.out).trans B0.out); clear HB L1 B0; have HB := n0_; have L1 := n1_; have B0 := n2_; clear n0_ n1_ n2_; clear hbx hB hfar) | ((with_reducible refine gate_dst (N := 25) rfl ?_); refine load39 rfl 1 rfl (g := b0) rfl B0.out rfl ?_) | ((with_reducible refine gate_callee (f := 23) rfl ?_); refine goesL_ (some 26) rfl rfl Try.func23 (by kernel_rfl) rfl #[.agg #[.int .i64 pa, .int .i64 pb, .slice A2 l2.length c2, .slice A3 l3.length c3, .slice A4 l4.length c4, .slice A5 l5.length c5]] rfl (by (try simp only [List.map_toArray, List.map_cons, List.map_nil]); first | done | rfl) ?_; refine (HT.out _ HB.out).mono ?_; rintro e Wy ⟨xA, xC, xR, xI, rfl, hO, hb⟩; refine ⟨_, rfl, ?_⟩; have OX := AZ.mk hO; have K1 := AZ.mk HB.out; have K2 := AZ.mk L1.out; have K3 := AZ.mk B1.out; have K4 := AZ.mk B0.out; have LS := AZ.mk hb; have LX := AZ.mk (Below.refl Wy.heap.size Wy); clear hO; have n0_ := AZ.mk (pT HB.out hb); have n1_ := AZ.mk (pT L1.out hb); have n2_ := AZ.mk (bb_ B0.out hb); have n3_ := AZ.mk (bb_ B1.out hb); clear HB L1 B0 B1; have HB := n0_; have L1 := n1_; have B0 := n2_; have B1 := n3_; clear n0_ n1_ n2_ n3_; clear hb) | ((with_reducible refine gate_dst (N := 6) rfl ?_); refine box_event ?hg (N := 6) ?hd (cs := cZ) (t := 27) ?hr ?_; (case hd => rfl); (case hg => rfl); (case hr => first | (go_simp; done) | (go_simp; rfl)); intro bx hg Wbx hbx hb; have Bx := AZ.mk hbx; have GHBbx := AZ.mk (show _ ≤ bx by rw [hg]; exact pZ HB.out); have GL1bx := AZ.mk (show _ ≤ bx by rw [hg]; exact pZ L1.out); have GLSbx := AZ.mk (show _ ≤ bx by rw [hg]; exact pZ LS.out); have GLXbx := AZ.mk (show _ ≤ bx by rw [hg]; exact pZ LX.out); have NEB0bx := AZ.mk (show b0 ≠ bx by rw [hg]; exact Nat.ne_of_lt (blk_lt B0.out)); have NEB1bx := AZ.mk (show b1 ≠ bx by rw [hg]; exact Nat.ne_of_lt (blk_lt B1.out)); have n0_ := AZ.mk (pT HB.out hb); have n1_ := AZ.mk (pT L1.out hb); have n2_ := AZ.mk (pT LS.out hb); have n3_ := AZ.mk (pT LX.out hb); have n4_ := AZ.mk (bb_ B0.out hb); have n5_ := AZ.mk (bb_ B1.out hb); clear HB L1 LS LX B0 B1; have HB := n0_; have L1 := n1_; have LS := n2_; have LX := n3_; have B0 := n4_; have B1 := n5_; clear n0_ n1_ n2_ n3_ n4_ n5_; clear hb hbx hg) | ((with_reducible refine gate_ (.store 27 (.tmp 6) (.tmp 26)) rfl ?_); refine store27 rfl 6 26 rfl (g := bx) (old := cZ) (cs := cellsI pa pb xA xC xR xI) rfl rfl Bx.out rfl rfl (cellsI_one _ _ (Reads.own OX.out)) ?_; intro Xbx hbx hB hfar; clear Bx; have Bx := AZ.mk hbx; have n0_ := AZ.mk (hB _ _ HB.out GHBbx.out); have n1_ := AZ.mk (hB _ _ L1.out GL1bx.out); have n2_ := AZ.mk (hB _ _ LS.out GLSbx.out); have n3_ := AZ.mk (hB _ _ LX.out GLXbx.out); have n4_ := AZ.mk ((hfar _ NEB0bx.out).trans B0.out); have n5_ := AZ.mk ((hfar _ NEB1bx.out).trans B1.out); clear HB L1 LS LX B0 B1; have HB := n0_; have L1 := n1_; have LS := n2_; have LX := n3_; have B0 := n4_; have B1 := n5_; clear n0_ n1_ n2_ n3_ n4_ n5_; clear hbx hB hfar) | ((with_reducible refine gate_dst (N := 28) rfl ?_); refine load27 rfl 6 rfl (g := bx) rfl Bx.out rfl ?_) | ((with_reducible refine gate_callee (f := 24) rfl ?_); refine goesL_ (some 29) rfl rfl Try.func24 (by kernel_rfl) rfl #[.agg (cellsI pa pb xA xC xR xI)] rfl (by (try simp only [List.map_toArray, List.map_cons, List.map_nil]); first | done | rfl) ?_; refine (HI.out _ _ _ _ _ (Reads.own (own_below OX.out LX.out))).mono ?_; rintro e W4 ⟨gA, gC, gR, gI, rfl, hO, hb⟩; refine ⟨_, rfl, ?_⟩; have OG := AZ.mk hO; have NG := AZ.mk (show Wy.heap.size ≤ _ from pZ LX.out); have NS := AZ.mk (pZ LS.out); have L4 := AZ.mk (Below.refl W4.heap.size W4); clear hO; have n0_ := AZ.mk (pT HB.out hb); have n1_ := AZ.mk (pT L1.out hb); have n2_ := AZ.mk (pT LS.out hb); have n3_ := AZ.mk (pT LX.out hb); have n4_ := AZ.mk (bb_ B0.out hb); have n5_ := AZ.mk (bb_ B1.out hb); have n6_ := AZ.mk (bb_ Bx.out hb); clear HB L1 LS LX B0 B1 Bx; have HB := n0_; have L1 := n1_; have LS := n2_; have LX := n3_; have B0 := n4_; have B1 := n5_; have Bx := n6_; clear n0_ n1_ n2_ n3_ n4_ n5_ n6_; clear hb) | ((with_reducible refine gate_dst (N := 7) rfl ?_); refine box_event ?hg (N := 7) ?hd (cs := cZ) (t := 27) ?hr ?_; (case hd => rfl); (case hg => rfl); (case hr => first | (go_simp; done) | (go_simp; rfl)); intro b2 hg Wb2 hbx hb; have B2 := AZ.mk hbx; have GHBb2 := AZ.mk (show _ ≤ b2 by rw [hg]; exact pZ HB.out); have GL1b2 := AZ.mk (show _ ≤ b2 by rw [hg]; exact pZ L1.out); have GLSb2 := AZ.mk (show _ ≤ b2 by rw [hg]; exact pZ LS.out); have GLXb2 := AZ.mk (show _ ≤ b2 by rw [hg]; exact pZ LX.out); have GL4b2 := AZ.mk (show _ ≤ b2 by rw [hg]; exact pZ L4.out); have NEB0b2 := AZ.mk (show b0 ≠ b2 by rw [hg]; exact Nat.ne_of_lt (blk_lt B0.out)); have NEB1b2 := AZ.mk (show b1 ≠ b2 by rw [hg]; exact Nat.ne_of_lt (blk_lt B1.out)); have NEBxb2 := AZ.mk (show bx ≠ b2 by rw [hg]; exact Nat.ne_of_lt (blk_lt Bx.out)); have n0_ := AZ.mk (pT HB.out hb); have n1_ := AZ.mk (pT L1.out hb); have n2_ := AZ.mk (pT LS.out hb); have n3_ := AZ.mk (pT LX.out hb); have n4_ := AZ.mk (pT L4.out hb); have n5_ := AZ.mk (bb_ B0.out hb); have n6_ := AZ.mk (bb_ B1.out hb); have n7_ := AZ.mk (bb_ Bx.out hb); clear HB L1 LS LX L4 B0 B1 Bx; have HB := n0_; have L1 := n1_; have LS := n2_; have LX := n3_; have L4 := n4_; have B0 := n5_; have B1 := n6_; have Bx := n7_; clear n0_ n1_ n2_ n3_ n4_ n5_ n6_ n7_; clear hb hbx hg) | ((with_reducible refine gate_ (.store 27 (.tmp 7) (.tmp 30)) rfl ?_); refine store27 rfl 7 30 rfl (g := b2) (old := cZ) (cs := cellsI gm gs gA gC gR gI) rfl rfl B2.out rfl rfl (cellsI_one _ _ (Reads.own OG.out)) ?_; intro Xb2 hbx hB hfar; clear B2; have B2 := AZ.mk hbx; have n0_ := AZ.mk (hB _ _ HB.out GHBb2.out); have n1_ := AZ.mk (hB _ _ L1.out GL1b2.out); have n2_ := AZ.mk (hB _ _ LS.out GLSb2.out); have n3_ := AZ.mk (hB _ _ LX.out GLXb2.out); have n4_ := AZ.mk (hB _ _ L4.out GL4b2.out); have n5_ := AZ.mk ((hfar _ NEB0b2.out).trans B0.out); have n6_ := AZ.mk ((hfar _ NEB1b2.out).trans B1.out); have n7_ := AZ.mk ((hfar _ NEBxb2.out).trans Bx.out); clear HB L1 LS LX L4 B0 B1 Bx; have HB := n0_; have L1 := n1_; have LS := n2_; have LX := n3_; have L4 := n4_; have B0 := n5_; have B1 := n6_; have Bx := n7_; clear n0_ n1_ n2_ n3_ n4_ n5_ n6_ n7_; clear hbx hB hfar) | ((with_reducible refine gate_dst (N := 32) rfl ?_); refine load27 rfl 7 rfl (g := b2) rfl B2.out rfl ?_) | ((with_reducible refine gate_dst (N := 33) rfl ?_); refine load27 rfl 4 rfl (g := b1) rfl B1.out rfl ?_) | ((with_reducible refine gate_callee (f := 12) rfl ?_); refine goesL_ (some 34) rfl rfl Try.func12 (by kernel_rfl) rfl #[.agg (cellsI gm gs gA gC gR gI), .agg (cellsI gm gs wA wC wR wI)] rfl (by (try simp only [List.map_toArray, List.map_cons, List.map_nil]); first | done | rfl) ?_; refine (eqS_calls kq gm gs (Reads.own (own_below OG.out L4.out)) (RW.out.below L1.out) EQG.out).mono ?_; rintro e W5 ⟨rfl, hb⟩; refine ⟨_, rfl, ?_⟩; have n0_ := AZ.mk (pT HB.out hb); have n1_ := AZ.mk (pT L1.out hb); have n2_ := AZ.mk (pT LS.out hb); have n3_ := AZ.mk (pT LX.out hb); have n4_ := AZ.mk (pT L4.out hb); have n5_ := AZ.mk (bb_ B0.out hb); have n6_ := AZ.mk (bb_ B1.out hb); have n7_ := AZ.mk (bb_ Bx.out hb); have n8_ := AZ.mk (bb_ B2.out hb); clear HB L1 LS LX L4 B0 B1 Bx B2; have HB := n0_; have L1 := n1_; have LS := n2_; have LX := n3_; have L4 := n4_; have B0 := n5_; have B1 := n6_; have Bx := n7_; have B2 := n8_; clear n0_ n1_ n2_ n3_ n4_ n5_ n6_ n7_ n8_; clear hb))
 refine start_ (n := 5) (S := fun w' => True) (ds := []) #[false, false, false, false, false] (by kernel_rfl) rfl rfl trivial (fun hHeld => ?_)
 refine with_tabW opp.tab10 opp.bits10 (fun HT_ HW_ => ?_)
 have n0_ := AZ.mk (pD HB.out)
 have n1_ := AZ.mk (pD L1.out)
 have n2_ := AZ.mk (pD LS.out)
 have n3_ := AZ.mk (pD LX.out)
 have n4_ := AZ.mk (pD L4.out)
 have n5_ := AZ.mk (bd_ B0.out)
 have n6_ := AZ.mk (bd_ B1.out)
 have n7_ := AZ.mk (bd_ Bx.out)
 have n8_ := AZ.mk (bd_ B2.out)
 clear HB L1 LS LX L4 B0 B1 Bx B2
 have HB := n0_
 have L1 := n1_
 have LS := n2_
 have LX := n3_
 have L4 := n4_
 have B0 := n5_
 have B1 := n6_
 have Bx := n7_
 have B2 := n8_
 clear n0_ n1_ n2_ n3_ n4_ n5_ n6_ n7_ n8_
 generalize World.drew _ = wD at HB L1 LS LX L4 B0 B1 Bx B2 hHeld ⊢
 refine inv_at [0, 1, 2, 3, 4] (fun a0_ b a w' => ∃ (zA : Value) (zC : Value) (zR : Value) (zI : Value) (nz : Nat) (m2_ : Value), a = putSel a0_ b [(0, 41, .agg (cellsI pa pb xA xC xR xI)), (1, 42, .agg #[.int .i64 pa, .int .i64 pb, .slice A2 l2.length c2, .slice A3 l3.length c3, .slice A4 l4.length c4, .slice A5 l5.length c5]), (2, 43, m2_), (3, 44, .bool true), (4, 45, .bool false)] ∧ (Below w.heap.size w w') ∧ (Below W1.heap.size W1 w') ∧ (Below Xb1.heap.size Xb1 w') ∧ (Below Wy.heap.size Wy w') ∧ (Below W4.heap.size W4 w') ∧ (w'.heap[b0]? = some (.cells #[.int .i64 pa, .int .i64 pb, .slice A2 l2.length c2, .slice A3 l3.length c3, .slice A4 l4.length c4, .slice A5 l5.length c5] 39 (0, 0))) ∧ (w'.heap[b1]? = some (.cells (cellsI gm gs wA wC wR wI) 27 (0, 0))) ∧ (w'.heap[bx]? = some (.cells (cellsI pa pb xA xC xR xI) 27 (0, 0))) ∧ (w'.heap[b2]? = some (.cells (cellsI gm gs gA gC gR gI) 27 (0, 0))) ∧ (b 2 = true → OwnC w' nz zA zC zR zI l2 l3' l4 l5) ∧ (b 2 = true → (m2_ : Value) = .agg (cellsI pa pb zA zC zR zI))) HT_.out HW_.out (by kernel_rfl) (by kernel_rfl) ?_ ?_ ?_
 ·exact ⟨.bool false, .bool false, .bool false, .bool false, 0, .bool false, by simp only [putSel, Bool.false_eq_true, if_false], HB.out, L1.out, LS.out, LX.out, L4.out, B0.out, B1.out, Bx.out, B2.out, fun h_ => absurd h_ (by decide), fun h_ => absurd h_ (by decide)⟩
 ·skip
  clear B0 B1 B2 Bx HB L1 L4 LS LX
  refine steps_cons ?_ ?_
  ·rintro b a w' ⟨zA, zC, zR, zI, nz, m2_, ha, Q_HB, Q_L1, Q_LS, Q_LX, Q_L4, Q_B0, Q_B1, Q_Bx, Q_B2, Q_OZ, Q_X2_⟩ hb_ hon hoff
   refine ⟨_, rfl, fun K hK => ?_⟩
   have e6 : a.tmps[6]? = some (.pointer (some ⟨bx, 0, none⟩)) := by rw [ha]; exact (putSel_off rfl).trans rfl
   replace ha := AZ.mk ha
   have HB := AZ.mk Q_HB
   have L1 := AZ.mk Q_L1
   have LS := AZ.mk Q_LS
   have LX := AZ.mk Q_LX
   have L4 := AZ.mk Q_L4
   have B0 := AZ.mk Q_B0
   have B1 := AZ.mk Q_B1
   have Bx := AZ.mk Q_Bx
   have B2 := AZ.mk Q_B2
   refine load27_step (by rfl) (N := 41) rfl 6 rfl (g := bx) (eval_of e6) Bx.out rfl ?_
   refine hK.out _ _ ⟨zA, zC, zR, zI, nz, m2_, (by rw [ha.out]; exact putSel_upk 0 hb_ rfl rfl rfl), HB.out, L1.out, LS.out, LX.out, L4.out, B0.out, B1.out, Bx.out, B2.out, fun h0_ => (Q_OZ h0_), Q_X2_⟩
  refine steps_cons ?_ ?_
  ·rintro b a w' ⟨zA, zC, zR, zI, nz, m2_, ha, Q_HB, Q_L1, Q_LS, Q_LX, Q_L4, Q_B0, Q_B1, Q_Bx, Q_B2, Q_OZ, Q_X2_⟩ hb_ hon hoff
   refine ⟨_, rfl, fun K hK => ?_⟩
   have e1 : a.tmps[1]? = some (.pointer (some ⟨b0, 0, none⟩)) := by rw [ha]; exact (putSel_off rfl).trans rfl
   replace ha := AZ.mk ha
   have HB := AZ.mk Q_HB
   have L1 := AZ.mk Q_L1
   have LS := AZ.mk Q_LS
   have LX := AZ.mk Q_LX
   have L4 := AZ.mk Q_L4
   have B0 := AZ.mk Q_B0
   have B1 := AZ.mk Q_B1
   have Bx := AZ.mk Q_Bx
   have B2 := AZ.mk Q_B2
   refine load39_step (by rfl) (N := 42) rfl 1 rfl (g := b0) (eval_of e1) B0.out rfl ?_
   refine hK.out _ _ ⟨zA, zC, zR, zI, nz, m2_, (by rw [ha.out]; exact putSel_upk 1 hb_ rfl rfl rfl), HB.out, L1.out, LS.out, LX.out, L4.out, B0.out, B1.out, Bx.out, B2.out, fun h0_ => absurd ((hoff 2 (by kernel_rfl)).symm.trans h0_) (by decide), fun h0_ => absurd ((hoff 2 (by kernel_rfl)).symm.trans h0_) (by decide)⟩
  refine steps_cons ?_ ?_
  ·rintro b a w' ⟨zA, zC, zR, zI, nz, m2_, ha, Q_HB, Q_L1, Q_LS, Q_LX, Q_L4, Q_B0, Q_B1, Q_Bx, Q_B2, Q_OZ, Q_X2_⟩ hb_ hon hoff
   refine ⟨_, rfl, fun K hK => ?_⟩
   have e42 : a.tmps[42]? = some (.agg #[.int .i64 pa, .int .i64 pb, .slice A2 l2.length c2, .slice A3 l3.length c3, .slice A4 l4.length c4, .slice A5 l5.length c5]) := by rw [ha]; exact putSel_on (e := (1, 42, .agg #[.int .i64 pa, .int .i64 pb, .slice A2 l2.length c2, .slice A3 l3.length c3, .slice A4 l4.length c4, .slice A5 l5.length c5])) 1 rfl rfl (hon 1 (by kernel_rfl)) rfl
   replace ha := AZ.mk ha
   have HB := AZ.mk Q_HB
   have L1 := AZ.mk Q_L1
   have LS := AZ.mk Q_LS
   have LX := AZ.mk Q_LX
   have L4 := AZ.mk Q_L4
   have B0 := AZ.mk Q_B0
   have B1 := AZ.mk Q_B1
   have Bx := AZ.mk Q_Bx
   have B2 := AZ.mk Q_B2
   refine goes_ Try.func23 (by kernel_rfl) rfl #[.agg #[.int .i64 pa, .int .i64 pb, .slice A2 l2.length c2, .slice A3 l3.length c3, .slice A4 l4.length c4, .slice A5 l5.length c5]] (by rfl) rfl rfl (by simp only [List.map_toArray, List.map_cons, List.map_nil, eval_of e42]) ?_
   refine (HT.out _ HB.out).mono ?_
   rintro e w_ ⟨v1_, v2_, v3_, v4_, rfl, hO, hb⟩
   refine ⟨_, rfl, ?_⟩
   refine hK.out _ _ ⟨v1_, v2_, v3_, v4_, (World.heap w').size, (.agg (cellsI pa pb v1_ v2_ v3_ v4_)), (by rw [ha.out]; exact putSel_upk 2 hb_ rfl rfl rfl), pT HB.out hb, pT L1.out hb, pT LS.out hb, pT LX.out hb, pT L4.out hb, bb_ B0.out hb, bb_ B1.out hb, bb_ Bx.out hb, bb_ B2.out hb, fun _ => hO, fun _ => rfl⟩
  refine steps_cons ?_ ?_
  ·rintro b a w' ⟨zA, zC, zR, zI, nz, m2_, ha, Q_HB, Q_L1, Q_LS, Q_LX, Q_L4, Q_B0, Q_B1, Q_Bx, Q_B2, Q_OZ, Q_X2_⟩ hb_ hon hoff
   refine ⟨_, rfl, fun K hK => ?_⟩
   have e41 : a.tmps[41]? = some (.agg (cellsI pa pb xA xC xR xI)) := by rw [ha]; exact putSel_on (e := (0, 41, .agg (cellsI pa pb xA xC xR xI))) 0 rfl rfl (hon 0 (by kernel_rfl)) rfl
   have e43 : a.tmps[43]? = some (m2_) := by rw [ha]; exact putSel_on (e := (2, 43, m2_)) 2 rfl rfl (hon 2 (by kernel_rfl)) rfl
   rw [Q_X2_ (hon 2 (by kernel_rfl))] at e43
   replace ha := AZ.mk ha
   have HB := AZ.mk Q_HB
   have L1 := AZ.mk Q_L1
   have LS := AZ.mk Q_LS
   have LX := AZ.mk Q_LX
   have L4 := AZ.mk Q_L4
   have B0 := AZ.mk Q_B0
   have B1 := AZ.mk Q_B1
   have Bx := AZ.mk Q_Bx
   have B2 := AZ.mk Q_B2
   have OZ := AZ.mk (Q_OZ (hon 2 (by kernel_rfl)))
   refine goes_ Try.func12 (by kernel_rfl) rfl #[.agg (cellsI pa pb xA xC xR xI), .agg (cellsI pa pb zA zC zR zI)] (by rfl) rfl rfl (by simp only [List.map_toArray, List.map_cons, List.map_nil, eval_of e41, eval_of e43]) ?_
   refine (eqS_calls kq pa pb (Reads.own (own_below OX.out LX.out)) (Reads.own OZ.out) EQX.out).mono ?_
   rintro e w_ ⟨rfl, hb⟩
   refine ⟨_, rfl, ?_⟩
   refine hK.out _ _ ⟨zA, zC, zR, zI, nz, m2_, (by rw [ha.out]; exact putSel_upk 3 hb_ rfl rfl rfl), pT HB.out hb, pT L1.out hb, pT LS.out hb, pT LX.out hb, pT L4.out hb, bb_ B0.out hb, bb_ B1.out hb, bb_ Bx.out hb, bb_ B2.out hb, fun _ => (own_below OZ.out hb), Q_X2_⟩
  refine steps_cons ?_ ?_
  ·rintro b a w' ⟨zA, zC, zR, zI, nz, m2_, ha, Q_HB, Q_L1, Q_LS, Q_LX, Q_L4, Q_B0, Q_B1, Q_Bx, Q_B2, Q_OZ, Q_X2_⟩ hb_ hon hoff
   refine ⟨_, rfl, fun K hK => ?_⟩
   have e44 : a.tmps[44]? = some (.bool true) := by rw [ha]; exact putSel_on (e := (3, 44, .bool true)) 3 rfl rfl (hon 3 (by kernel_rfl)) rfl
   replace ha := AZ.mk ha
   have HB := AZ.mk Q_HB
   have L1 := AZ.mk Q_L1
   have LS := AZ.mk Q_LS
   have LX := AZ.mk Q_LX
   have L4 := AZ.mk Q_L4
   have B0 := AZ.mk Q_B0
   have B1 := AZ.mk Q_B1
   have Bx := AZ.mk Q_Bx
   have B2 := AZ.mk Q_B2
   have OZ := AZ.mk (Q_OZ (hon 2 (by kernel_rfl)))
   refine value_ (w1 := w') (v := .bool false) (by rfl) rfl ?_ ?_
   ·go_simp
    (try simp only [i64_w])
    try rfl
   refine hK.out _ _ ⟨zA, zC, zR, zI, nz, m2_, (by rw [ha.out]; exact putSel_upk 4 hb_ rfl rfl rfl), Q_HB, Q_L1, Q_LS, Q_LX, Q_L4, Q_B0, Q_B1, Q_Bx, Q_B2, Q_OZ, Q_X2_⟩
  exact steps_nil
 ·rintro b a w' hall ⟨zA, zC, zR, zI, nz, m2_, ha, Q_HB, Q_L1, Q_LS, Q_LX, Q_L4, Q_B0, Q_B1, Q_Bx, Q_B2, Q_OZ, Q_X2_⟩
  clear B0 B1 B2 Bx HB L1 L4 LS LX
  have hb0_ := hall 0 (by kernel_rfl)
  have hb1_ := hall 1 (by kernel_rfl)
  have hb2_ := hall 2 (by kernel_rfl)
  have hb3_ := hall 3 (by kernel_rfl)
  have hb4_ := hall 4 (by kernel_rfl)
  subst ha
  obtain rfl := Q_X2_ hb2_
  simp only [putSel, hb0_, hb1_, hb2_, hb3_, hb4_, if_true, Act.put, sA, sB, sC]
  have HB := AZ.mk Q_HB
  clear Q_HB
  have L1 := AZ.mk Q_L1
  clear Q_L1
  have LS := AZ.mk Q_LS
  clear Q_LS
  have LX := AZ.mk Q_LX
  clear Q_LX
  have L4 := AZ.mk Q_L4
  clear Q_L4
  have B0 := AZ.mk Q_B0
  clear Q_B0
  have B1 := AZ.mk Q_B1
  clear Q_B1
  have Bx := AZ.mk Q_Bx
  clear Q_Bx
  have B2 := AZ.mk Q_B2
  clear Q_B2
  have OZ := AZ.mk (Q_OZ hb2_)
  clear Q_OZ
  clear hall hb0_ hb1_ hb2_ hb3_ hb4_
  go_wp2_with (first | ((with_reducible refine gate_dst (N := 46) rfl ?_); refine load27 rfl 6 rfl (g := bx) rfl Bx.out rfl ?_) | ((with_reducible refine gate_callee (f := 13) rfl ?_); refine goesL_ (some 48) rfl rfl Try.func13 (by kernel_rfl) rfl #[.agg (cellsI pa pb xA xC xR xI), .int .i64 1] rfl (by (try simp only [List.map_toArray, List.map_cons, List.map_nil]); first | done | rfl) ?_; refine (markChecker_kept _ _ Wy.heap.size (pZ LX.out) pa pb xA xC xR xI l2 l3' l4 l5 OKX.out LS.out (own_bound OX.out LX.out) b2 _ B2.out).mono ?_; rintro e W8 ⟨rfl, _, hb, hg, hkp⟩; rw [← HQX.out]; refine ⟨_, rfl, ?_⟩; have OG2 := AZ.mk (own_kept (own_below OG.out L4.out) hkp NG.out); clear HB L1 B0 B1 B2 Bx L4 LX LS OG; have OG := OG2; clear OG2; have L4 := AZ.mk (Below.refl W8.heap.size W8); have HB := AZ.mk (pT K1.out hb); have L1 := AZ.mk (pT K2.out hb); have B1 := AZ.mk (bb_ K3.out hb); have B0 := AZ.mk (bb_ K4.out hb); have B2 := AZ.mk hg; have LS := AZ.mk hb; clear hb hg hkp) | ((with_reducible refine gate_dst (N := 52) rfl ?_); refine gate_guard (by rfl) ?_; refine load27 rfl 7 rfl (g := b2) rfl B2.out rfl ?_) | ((with_reducible refine gate_dst (N := 53) rfl ?_); refine gate_guard (by rfl) ?_; refine load27 rfl 4 rfl (g := b1) rfl B1.out rfl ?_) | ((with_reducible refine gate_dst (N := 54) rfl ?_); refine gate_guard (by rfl) ?_; refine goesL_ (some 54) rfl rfl Try.func12 (by kernel_rfl) rfl #[.agg (cellsI gm gs gA gC gR gI), .agg (cellsI gm gs wA wC wR wI)] rfl (by (try simp only [List.map_toArray, List.map_cons, List.map_nil]); first | done | rfl) ?_; refine (eqS_calls kq gm gs (Reads.own (own_below OG.out L4.out)) (RW.out.below L1.out) EQG.out).mono ?_; rintro e W9 ⟨rfl, hb⟩; refine ⟨_, rfl, ?_⟩; have n0_ := AZ.mk (pT HB.out hb); have n1_ := AZ.mk (pT L1.out hb); have n2_ := AZ.mk (pT LS.out hb); have n3_ := AZ.mk (pT L4.out hb); have n4_ := AZ.mk (bb_ B0.out hb); have n5_ := AZ.mk (bb_ B1.out hb); have n6_ := AZ.mk (bb_ B2.out hb); clear HB L1 LS L4 B0 B1 B2; have HB := n0_; have L1 := n1_; have LS := n2_; have L4 := n3_; have B0 := n4_; have B1 := n5_; have B2 := n6_; clear n0_ n1_ n2_ n3_ n4_ n5_ n6_; clear hb) | ((with_reducible refine gate_dst (N := 62) rfl ?_); refine load27 rfl 7 rfl (g := b2) rfl B2.out rfl ?_) | ((with_reducible refine gate_dst (N := 64) rfl ?_); refine goesL_ (some 64) rfl rfl Try.func13 (by kernel_rfl) rfl #[.agg (cellsI gm gs gA gC gR gI), .int .i64 1] rfl (by (try simp only [List.map_toArray, List.map_cons, List.map_nil]); first | done | rfl) ?_; refine (markChecker_kept _ _ _ (Nat.le_refl _) gm gs gA gC gR gI gA' gC' gR' gI' OKG.out LS.out (own_bound (own_lower (own_below OG.out L4.out) NS.out) (Below.refl _ _)) b2 _ B2.out).mono ?_; rintro e W12 ⟨rfl, hO, hb, hg, _⟩; rw [← HQG.out]; refine ⟨_, rfl, ?_⟩; have OM := AZ.mk hO; have L8 := AZ.mk (Below.refl W12.heap.size W12); clear HB L1 B0 B1 B2 L4 LS; have HB := AZ.mk (pT K1.out hb); have L1 := AZ.mk (pT K2.out hb); have B1 := AZ.mk (bb_ K3.out hb); have B0 := AZ.mk (bb_ K4.out hb); have B2 := AZ.mk hg; clear hb hg hO) | ((with_reducible refine gate_dst (N := 65) rfl ?_); refine load27 rfl 7 rfl (g := b2) rfl B2.out rfl ?_) | ((with_reducible refine gate_dst (N := 67) rfl ?_); refine goesL_ (some 67) rfl rfl Try.func14 (by kernel_rfl) rfl #[.agg (cellsI gm gs gA gC gR gI), .int .i64 1] rfl (by (try simp only [List.map_toArray, List.map_cons, List.map_nil]); first | done | rfl) ?_; refine (heldS_calls gm gs OKG.out (Reads.own (own_below OM.out L8.out))).mono ?_; rintro e W13 ⟨rfl, hb⟩; rw [← HQG.out]; refine ⟨_, rfl, ?_⟩; have n0_ := AZ.mk (pT HB.out hb); have n1_ := AZ.mk (pT L1.out hb); have n2_ := AZ.mk (pT L8.out hb); have n3_ := AZ.mk (bb_ B0.out hb); have n4_ := AZ.mk (bb_ B1.out hb); have n5_ := AZ.mk (bb_ B2.out hb); clear HB L1 L8 B0 B1 B2; have HB := n0_; have L1 := n1_; have L8 := n2_; have B0 := n3_; have B1 := n4_; have B2 := n5_; clear n0_ n1_ n2_ n3_ n4_ n5_; clear hb) | ((with_reducible refine gate_dst (N := 74) rfl ?_); refine load39 rfl 1 rfl (g := b0) rfl B0.out rfl ?_) | ((with_reducible refine gate_callee (f := 23) rfl ?_); refine goesL_ (some 75) rfl rfl Try.func23 (by kernel_rfl) rfl #[.agg #[.int .i64 pa, .int .i64 pb, .slice A2 l2.length c2, .slice A3 l3.length c3, .slice A4 l4.length c4, .slice A5 l5.length c5]] rfl (by (try simp only [List.map_toArray, List.map_cons, List.map_nil]); first | done | rfl) ?_; refine (HT.out _ HB.out).mono ?_; rintro e Wz ⟨yA, yC, yR, yI, rfl, hO, hb⟩; refine ⟨_, rfl, ?_⟩; have OY := AZ.mk hO; clear hO; have n0_ := AZ.mk (pT HB.out hb); have n1_ := AZ.mk (pT L1.out hb); have n2_ := AZ.mk (pT L8.out hb); have n3_ := AZ.mk (bb_ B0.out hb); have n4_ := AZ.mk (bb_ B1.out hb); have n5_ := AZ.mk (bb_ B2.out hb); clear HB L1 L8 B0 B1 B2; have HB := n0_; have L1 := n1_; have L8 := n2_; have B0 := n3_; have B1 := n4_; have B2 := n5_; clear n0_ n1_ n2_ n3_ n4_ n5_; clear hb) | ((with_reducible refine gate_callee (f := 24) rfl ?_); refine goesL_ (some 76) rfl rfl Try.func24 (by kernel_rfl) rfl #[.agg (cellsI pa pb yA yC yR yI)] rfl (by (try simp only [List.map_toArray, List.map_cons, List.map_nil]); first | done | rfl) ?_; refine (HI.out _ _ _ _ _ (Reads.own OY.out)).mono ?_; rintro e W14 ⟨hA, hC, hR, hI, rfl, hO, hb⟩; refine ⟨_, rfl, ?_⟩; have OH := AZ.mk hO; have L10 := AZ.mk (Below.refl W14.heap.size W14); clear hO; have n0_ := AZ.mk (pT HB.out hb); have n1_ := AZ.mk (pT L1.out hb); have n2_ := AZ.mk (pT L8.out hb); have n3_ := AZ.mk (bb_ B0.out hb); have n4_ := AZ.mk (bb_ B1.out hb); have n5_ := AZ.mk (bb_ B2.out hb); clear HB L1 L8 B0 B1 B2; have HB := n0_; have L1 := n1_; have L8 := n2_; have B0 := n3_; have B1 := n4_; have B2 := n5_; clear n0_ n1_ n2_ n3_ n4_ n5_; clear hb) | ((with_reducible refine gate_dst (N := 12) rfl ?_); refine box_event ?hg (N := 12) ?hd (cs := cZ) (t := 27) ?hr ?_; (case hd => rfl); (case hg => rfl); (case hr => first | (go_simp; done) | (go_simp; rfl)); intro b5 hg Wb5 hbx hb; have B5 := AZ.mk hbx; have GHBb5 := AZ.mk (show _ ≤ b5 by rw [hg]; exact pZ HB.out); have GL1b5 := AZ.mk (show _ ≤ b5 by rw [hg]; exact pZ L1.out); have GL8b5 := AZ.mk (show _ ≤ b5 by rw [hg]; exact pZ L8.out); have GL10b5 := AZ.mk (show _ ≤ b5 by rw [hg]; exact pZ L10.out); have NEB0b5 := AZ.mk (show b0 ≠ b5 by rw [hg]; exact Nat.ne_of_lt (blk_lt B0.out)); have NEB1b5 := AZ.mk (show b1 ≠ b5 by rw [hg]; exact Nat.ne_of_lt (blk_lt B1.out)); have NEB2b5 := AZ.mk (show b2 ≠ b5 by rw [hg]; exact Nat.ne_of_lt (blk_lt B2.out)); have n0_ := AZ.mk (pT HB.out hb); have n1_ := AZ.mk (pT L1.out hb); have n2_ := AZ.mk (pT L8.out hb); have n3_ := AZ.mk (pT L10.out hb); have n4_ := AZ.mk (bb_ B0.out hb); have n5_ := AZ.mk (bb_ B1.out hb); have n6_ := AZ.mk (bb_ B2.out hb); clear HB L1 L8 L10 B0 B1 B2; have HB := n0_; have L1 := n1_; have L8 := n2_; have L10 := n3_; have B0 := n4_; have B1 := n5_; have B2 := n6_; clear n0_ n1_ n2_ n3_ n4_ n5_ n6_; clear hb hbx hg) | ((with_reducible refine gate_ (.store 27 (.tmp 12) (.tmp 77)) rfl ?_); refine store27 rfl 12 77 rfl (g := b5) (old := cZ) (cs := cellsI gm gs hA hC hR hI) rfl rfl B5.out rfl rfl (cellsI_one _ _ (Reads.own OH.out)) ?_; intro Xb5 hbx hB hfar; clear B5; have B5 := AZ.mk hbx; have n0_ := AZ.mk (hB _ _ HB.out GHBb5.out); have n1_ := AZ.mk (hB _ _ L1.out GL1b5.out); have n2_ := AZ.mk (hB _ _ L8.out GL8b5.out); have n3_ := AZ.mk (hB _ _ L10.out GL10b5.out); have n4_ := AZ.mk ((hfar _ NEB0b5.out).trans B0.out); have n5_ := AZ.mk ((hfar _ NEB1b5.out).trans B1.out); have n6_ := AZ.mk ((hfar _ NEB2b5.out).trans B2.out); clear HB L1 L8 L10 B0 B1 B2; have HB := n0_; have L1 := n1_; have L8 := n2_; have L10 := n3_; have B0 := n4_; have B1 := n5_; have B2 := n6_; clear n0_ n1_ n2_ n3_ n4_ n5_ n6_; clear hbx hB hfar) | ((with_reducible refine gate_dst (N := 79) rfl ?_); refine load27 rfl 12 rfl (g := b5) rfl B5.out rfl ?_) | ((with_reducible refine gate_dst (N := 80) rfl ?_); refine load27 rfl 4 rfl (g := b1) rfl B1.out rfl ?_) | ((with_reducible refine gate_callee (f := 12) rfl ?_); refine goesL_ (some 81) rfl rfl Try.func12 (by kernel_rfl) rfl #[.agg (cellsI gm gs hA hC hR hI), .agg (cellsI gm gs wA wC wR wI)] rfl (by (try simp only [List.map_toArray, List.map_cons, List.map_nil]); first | done | rfl) ?_; refine (eqS_calls kq gm gs (Reads.own (own_below OH.out L10.out)) (RW.out.below L1.out) EQG.out).mono ?_; rintro e W15 ⟨rfl, hb⟩; refine ⟨_, rfl, ?_⟩; have n0_ := AZ.mk (pT HB.out hb); have n1_ := AZ.mk (pT L1.out hb); have n2_ := AZ.mk (pT L8.out hb); have n3_ := AZ.mk (pT L10.out hb); have n4_ := AZ.mk (bb_ B0.out hb); have n5_ := AZ.mk (bb_ B1.out hb); have n6_ := AZ.mk (bb_ B2.out hb); have n7_ := AZ.mk (bb_ B5.out hb); clear HB L1 L8 L10 B0 B1 B2 B5; have HB := n0_; have L1 := n1_; have L8 := n2_; have L10 := n3_; have B0 := n4_; have B1 := n5_; have B2 := n6_; have B5 := n7_; clear n0_ n1_ n2_ n3_ n4_ n5_ n6_ n7_; clear hb) | ((with_reducible refine gate_dst (N := 88) rfl ?_); refine load27 rfl 7 rfl (g := b2) rfl B2.out rfl ?_) | ((with_reducible refine gate_dst (N := 90) rfl ?_); refine goesL_ (some 90) rfl rfl Try.func14 (by kernel_rfl) rfl #[.agg (cellsI gm gs gA gC gR gI), .int .i64 1] rfl (by (try simp only [List.map_toArray, List.map_cons, List.map_nil]); first | done | rfl) ?_; refine (heldS_calls gm gs OKG.out (Reads.own (own_below OM.out L8.out))).mono ?_; rintro e W16 ⟨rfl, hb⟩; rw [← HQG.out]; refine ⟨_, rfl, ?_⟩; have n0_ := AZ.mk (pT HB.out hb); have n1_ := AZ.mk (pT L1.out hb); have n2_ := AZ.mk (pT L8.out hb); have n3_ := AZ.mk (pT L10.out hb); have n4_ := AZ.mk (bb_ B0.out hb); have n5_ := AZ.mk (bb_ B1.out hb); have n6_ := AZ.mk (bb_ B2.out hb); have n7_ := AZ.mk (bb_ B5.out hb); clear HB L1 L8 L10 B0 B1 B2 B5; have HB := n0_; have L1 := n1_; have L8 := n2_; have L10 := n3_; have B0 := n4_; have B1 := n5_; have B2 := n6_; have B5 := n7_; clear n0_ n1_ n2_ n3_ n4_ n5_ n6_ n7_; clear hb))
  go_ret
  exact ⟨rfl, HB.out⟩
end Opp
end Go.Proofs.Ytepkfigcnnfoaaa.P
