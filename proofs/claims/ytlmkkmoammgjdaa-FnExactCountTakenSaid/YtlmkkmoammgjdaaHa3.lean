/- Texts that this law leans on, several in one; written by programs of these sessions (print, wip/deep, gather.py). -/
import Derived.Test.YtlmkkmoammgjdaaHa2
namespace Go.Proofs.Ytlmkkmoammgjdaa.P
open Go.RowKit Go.Proofs.YtlmkkmoammgjdaaW.PrintWords Go.Proofs.YtlmkkmoammgjdaaW.PrintLast Go.Proofs.YtlmkkmoammgjdaaW.PrintMore
attribute [local go_sem] max2_int min2_int max_two min_two max_three min_three max_four min_four
set_option linter.unusedVariables false
set_option linter.unusedSimpArgs false
mutual
def impl_ValidChecker.j0 : Nat → Int → Bool → Int → Int → List Bool → List (List (S92)) → List (List (List Int)) → List (List Int) → Option (Bool)
 | 0, _, _, _, _, _, _, _, _ => none
 | k + 1, x3, x47, x275000, x275001, x275002, x275003, x275004, x275005 => if x47 = true then (some false) else (impl_ValidChecker.l0 k x3 0 x275000 x275001 x275002 x275003 x275004 x275005)
def impl_ValidChecker.l0 : Nat → Int → Int → Int → Int → List Bool → List (List (S92)) → List (List (List Int)) → List (List Int) → Option (Bool)
 | 0, _, _, _, _, _, _, _, _ => none
 | k + 1, x49, x50, x275000, x275001, x275002, x275003, x275004, x275005 => if x50 < x49 then (if 0 ≤ x50 then (if x50 < (x275003.length : Int) then (if ((rd_L9 x275003 x50).length : Int) = 2 then (if x50 < (x275004.length : Int) then (if ((rd_L7 x275004 x50).length : Int) = 2 then (if x50 < (x275005.length : Int) then ((impl_ValidChecker_1_c.f k (rd_L6 x275005 x50) 2 x275000 x275001 x275002 x275003 x275004 x275005).bind fun t285 => (impl_ValidChecker.j2 k x50 x49 x50 (!t285) x275000 x275001 x275002 x275003 x275004 x275005)) else (none)) else (impl_ValidChecker.j2 k x50 x49 x50 true x275000 x275001 x275002 x275003 x275004 x275005)) else (none)) else (impl_ValidChecker.j2 k x50 x49 x50 true x275000 x275001 x275002 x275003 x275004 x275005)) else (none)) else (none)) else (some true)
def impl_ValidChecker.j2 : Nat → Int → Int → Int → Bool → Int → Int → List Bool → List (List (S92)) → List (List (List Int)) → List (List Int) → Option (Bool)
 | 0, _, _, _, _, _, _, _, _, _, _ => none
 | k + 1, x5, x49, x50, x78, x275000, x275001, x275002, x275003, x275004, x275005 => if x78 = true then (some false) else (impl_ValidChecker.l1 k x5 x49 x50 0 x275000 x275001 x275002 x275003 x275004 x275005)
def impl_ValidChecker.l1 : Nat → Int → Int → Int → Int → Int → Int → List Bool → List (List (S92)) → List (List (List Int)) → List (List Int) → Option (Bool)
 | 0, _, _, _, _, _, _, _, _, _, _ => none
 | k + 1, x5, x49, x50, x79, x275000, x275001, x275002, x275003, x275004, x275005 => if x79 < 2 then (if 0 ≤ x5 then (if x5 < (x275003.length : Int) then (if 0 ≤ x79 then (if x79 < ((rd_L9 x275003 x5).length : Int) then ((impl_Checker_isState.f x275000 x275001 x275002 x275003 x275004 x275005 ((rd_T92 (rd_L9 x275003 x5) x79).f0)).bind fun t289 => (if t289 = true then ((impl_Checker_isMark.f x275000 x275001 x275002 x275003 x275004 x275005 ((rd_T92 (rd_L9 x275003 x5) x79).f1)).bind fun t290 => (if t290 = true then (if x5 < (x275004.length : Int) then (if x79 < ((rd_L7 x275004 x5).length : Int) then ((impl_ValidChecker_1_c.f k (rd_L6 (rd_L7 x275004 x5) x79) (wrap64 (x275000 + 1)) x275000 x275001 x275002 x275003 x275004 x275005).bind fun t293 => (if t293 = true then (impl_ValidChecker.l1 k x5 x49 x50 (wrap64 (x79 + 1)) x275000 x275001 x275002 x275003 x275004 x275005) else (some false))) else (none)) else (none)) else (some false))) else (some false))) else (none)) else (none)) else (none)) else (none)) else (impl_ValidChecker.l0 k x49 (wrap64 (x50 + 1)) x275000 x275001 x275002 x275003 x275004 x275005)
end
def impl_ValidChecker.f (k : Nat) (a0_0 : Int) (a0_1 : Int) (l0_2 : List Bool) (l0_3 : List (List (S92))) (l0_4 : List (List (List Int))) (l0_5 : List (List Int)) : Option (Bool) := (impl_size_bool.f l0_2).bind fun t275 => ((impl_within.f t275 1 40).bind fun t276 => (if t276 = true then ((impl_within.f a0_0 1 80).bind fun t277 => (if t277 = true then ((impl_Checker_isState.f a0_0 a0_1 l0_2 l0_3 l0_4 l0_5 a0_1).bind fun t278 => (if t278 = true then ((impl_size_Limpl_Push.f l0_3).bind fun t279 => (if t279 = t275 then ((impl_size_LLint64.f l0_4).bind fun t280 => (if t280 = t275 then ((impl_size_Lint64.f l0_5).bind fun t281 => (impl_ValidChecker.j0 k t275 (t281 != t275) a0_0 a0_1 l0_2 l0_3 l0_4 l0_5)) else (impl_ValidChecker.j0 k t275 true a0_0 a0_1 l0_2 l0_3 l0_4 l0_5))) else (impl_ValidChecker.j0 k t275 true a0_0 a0_1 l0_2 l0_3 l0_4 l0_5))) else (impl_ValidChecker.j0 k t275 true a0_0 a0_1 l0_2 l0_3 l0_4 l0_5))) else (impl_ValidChecker.j0 k t275 true a0_0 a0_1 l0_2 l0_3 l0_4 l0_5))) else (impl_ValidChecker.j0 k t275 true a0_0 a0_1 l0_2 l0_3 l0_4 l0_5)))
def impl_ValidChecker.T14 : Bool × List (List Nat × List Nat) := (true, [([], []), ([], []), ([1], [1]), ([0, 2], [0, 2]), ([3], [3]), ([4, 3], [4]), ([5], [5]), ([5], [5]), ([7, 5], [5, 7]), ([6, 8, 5, 5], [5, 6, 8]), ([9, 5], [5, 9]), ([5, 10], [5, 10]), ([11, 9], [11]), ([12], [12]), ([12], [12]), ([14, 12], [12, 14]), ([12], [12]), ([15, 16, 12], [12, 15, 16]), ([17, 12], [12, 17]), ([12], [12]), ([18, 19, 12], [12, 18, 19]), ([20, 12], [12, 20]), ([12], [12]), ([22, 12], [12, 22]), ([23, 12], [12, 23]), ([13, 21, 24, 12, 12], [12, 13, 21, 24]), ([25, 12], [12, 25]), ([12, 26], [12, 26])])
def impl_ValidChecker.B14 : List Nat := [0, 0, 2, 7, 15, 31, 63, 63, 191, 511, 1023, 2047, 4095, 8191, 8191, 24575, 8191, 122879, 253951, 8191, 1040383, 2088959, 8191, 4202495, 12591103, 33554431, 67108863, 134217727]
theorem impl_ValidChecker.tab14 : rtab .any (opsOf Try.f30 14) = impl_ValidChecker.T14 := by kernel_rfl
theorem impl_ValidChecker.bits14 : waitsOk impl_ValidChecker.T14.2 impl_ValidChecker.B14 = true := by kernel_rfl
def impl_ValidChecker.cz0 : List Nat := [1, 400, 402]
def impl_ValidChecker.cz1 : List Nat := [4, 5, 7, 406, 408]
def impl_ValidChecker.cz2 : List Nat := [10, 11, 12, 13, 14, 16, 19, 22, 415, 17, 418, 20, 421, 423, 24]
def impl_ValidChecker.cz3 : List Nat := [26, 27]
def impl_ValidChecker.cz4 : List Nat := [10, 11, 12, 213, 214, 215, 216, 217, 218, 219, 220, 221, 222, 223, 224, 225, 226, 27]
def impl_ValidChecker.cz5 : List Nat := [4, 5, 206, 207, 208, 209, 210, 11, 12, 213, 214, 215, 216, 217, 218, 219, 220, 221, 222, 223, 224, 225, 226, 27]
set_option maxHeartbeats 8000000 in
set_option maxRecDepth 100000 in
theorem impl_ValidChecker.calls (k : Nat) (a0_0 : Int) (a0_1 : Int) (A0_2 : Option Addr) (c0_2 : Nat) (l0_2 : List Bool) (A0_3 : Option Addr) (c0_3 : Nat) (l0_3 : List (List (S92))) (A0_4 : Option Addr) (c0_4 : Nat) (l0_4 : List (List (List Int))) (A0_5 : Option Addr) (c0_5 : Nat) (l0_5 : List (List Int)) (r : Bool) (w : World) (hr0_2 : Kd.C Kd.bool w A0_2 l0_2.length l0_2) (hc0_2 : l0_2.length ≤ c0_2) (hr0_3 : Kd.C (Kd.slice 92 k92) w A0_3 l0_3.length l0_3) (hc0_3 : l0_3.length ≤ c0_3) (hr0_4 : Kd.C (Kd.slice 60 (Kd.slice 2 (Kd.int .i64))) w A0_4 l0_4.length l0_4) (hc0_4 : l0_4.length ≤ c0_4) (hr0_5 : Kd.C (Kd.slice 2 (Kd.int .i64)) w A0_5 l0_5.length l0_5) (hc0_5 : l0_5.length ≤ c0_5) (h : impl_ValidChecker.f k a0_0 a0_1 l0_2 l0_3 l0_4 l0_5 = some r) :
  Calls Try.prog 30 #[.agg #[.int .i64 a0_0, .int .i64 a0_1, .slice A0_2 l0_2.length c0_2, .slice A0_3 l0_3.length c0_3, .slice A0_4 l0_4.length c0_4, .slice A0_5 l0_5.length c0_5]] w fun e w' => e = .returned (.bool r) ∧ Below w.heap.size w w' := by
 have hu36 := Try.underlying36
 have hu92 := Try.underlying92
 have HR0_2 := AZ.mk hr0_2
 have HC0_2 := AZ.mk hc0_2
 clear hr0_2 hc0_2
 have HR0_3 := AZ.mk hr0_3
 have HC0_3 := AZ.mk hc0_3
 clear hr0_3 hc0_3
 have HR0_4 := AZ.mk hr0_4
 have HC0_4 := AZ.mk hc0_4
 clear hr0_4 hc0_4
 have HR0_5 := AZ.mk hr0_5
 have HC0_5 := AZ.mk hc0_5
 clear hr0_5 hc0_5
 have HB := AZ.mk (Below.refl w.heap.size w)
 have H : ((impl_size_bool.f l0_2).bind fun t275 => ((impl_within.f t275 1 40).bind fun t276 => (if t276 = true then ((impl_within.f a0_0 1 80).bind fun t277 => (if t277 = true then ((impl_Checker_isState.f a0_0 a0_1 l0_2 l0_3 l0_4 l0_5 a0_1).bind fun t278 => (if t278 = true then ((impl_size_Limpl_Push.f l0_3).bind fun t279 => (if t279 = t275 then ((impl_size_LLint64.f l0_4).bind fun t280 => (if t280 = t275 then ((impl_size_Lint64.f l0_5).bind fun t281 => (impl_ValidChecker.j0 k t275 (t281 != t275) a0_0 a0_1 l0_2 l0_3 l0_4 l0_5)) else (impl_ValidChecker.j0 k t275 true a0_0 a0_1 l0_2 l0_3 l0_4 l0_5))) else (impl_ValidChecker.j0 k t275 true a0_0 a0_1 l0_2 l0_3 l0_4 l0_5))) else (impl_ValidChecker.j0 k t275 true a0_0 a0_1 l0_2 l0_3 l0_4 l0_5))) else (impl_ValidChecker.j0 k t275 true a0_0 a0_1 l0_2 l0_3 l0_4 l0_5))) else (impl_ValidChecker.j0 k t275 true a0_0 a0_1 l0_2 l0_3 l0_4 l0_5)))) = some r := h
 clear h
 replace H := Option.bind_eq_some_iff.mp H
 obtain ⟨t275, A20, H⟩ := H
 replace H : ((impl_within.f t275 1 40).bind fun t276 => (if t276 = true then ((impl_within.f a0_0 1 80).bind fun t277 => (if t277 = true then ((impl_Checker_isState.f a0_0 a0_1 l0_2 l0_3 l0_4 l0_5 a0_1).bind fun t278 => (if t278 = true then ((impl_size_Limpl_Push.f l0_3).bind fun t279 => (if t279 = t275 then ((impl_size_LLint64.f l0_4).bind fun t280 => (if t280 = t275 then ((impl_size_Lint64.f l0_5).bind fun t281 => (impl_ValidChecker.j0 k t275 (t281 != t275) a0_0 a0_1 l0_2 l0_3 l0_4 l0_5)) else (impl_ValidChecker.j0 k t275 true a0_0 a0_1 l0_2 l0_3 l0_4 l0_5))) else (impl_ValidChecker.j0 k t275 true a0_0 a0_1 l0_2 l0_3 l0_4 l0_5))) else (impl_ValidChecker.j0 k t275 true a0_0 a0_1 l0_2 l0_3 l0_4 l0_5))) else (impl_ValidChecker.j0 k t275 true a0_0 a0_1 l0_2 l0_3 l0_4 l0_5))) else (impl_ValidChecker.j0 k t275 true a0_0 a0_1 l0_2 l0_3 l0_4 l0_5))) = some r := H
 have A2 := AZ.mk A20
 clear A20
 have HC3 := AZ.mk H
 clear H
 go_enter Try.func30, Try.ntmps30
 go_upto_region 2 with (first | ((with_reducible refine gate_dst (N := 1) rfl ?_); (try (refine gate_guard (by rfl) ?_; dsimp only)); refine box_event ?hg (N := 1) ?hd (cs := #[.int .i64 a0_0, .int .i64 a0_1, .slice A0_2 l0_2.length c0_2, .slice A0_3 l0_3.length c0_3, .slice A0_4 l0_4.length c0_4, .slice A0_5 l0_5.length c0_5]) (t := 36) ?hr ?_; (case hd => rfl); (case hg => rfl); (case hr => first | (go_simp; done) | (go_simp; rfl)); intro gb274 hg w4 hbox hb; have n0_ := AZ.mk (pT (by repeat (first | (with_reducible first | exact HB.out | apply pA | apply pN | apply pD) | exact HB.out)) hb); have n1_ := AZ.mk (hbox); have n2_ := AZ.mk ((by rw [hg]; exact (pZ (by repeat (first | (with_reducible first | exact HB.out | apply pA | apply pN | apply pD) | exact HB.out))) : w.heap.size ≤ gb274)); have n3_ := AZ.mk ((by rw [hg]; exact (pZ (by repeat (first | (with_reducible first | exact HB.out | apply pA | apply pN | apply pD) | exact HB.out))) : w.heap.size ≤ gb274)); clear HB; have HB := n0_; have BK274 := n1_; have GW274 := n2_; have GE274 := n3_; clear n0_ n1_ n2_ n3_; clear hb hbox hg; obtain ⟨hcz5_0, hcz5_1, hcz5_2, hcz5_3, hcz5_4, hcz5_5⟩ := c6 BK274.out; obtain ⟨hfz5_0, hfz5_1, hfz5_2, hfz5_3, hfz5_4, hfz5_5⟩ := f6 BK274.out) | ((with_reducible refine gate_callee (f := 48) rfl ?_); refine goesL_ (some 10) rfl rfl Try.func48 (by kernel_rfl) rfl #[.slice A0_2 l0_2.length c0_2] rfl (by (try simp only [List.map_toArray, List.map_cons, List.map_nil]); first | done | rfl | (simp only [List.length_drop, List.length_take]; rfl)) ?_; (with_reducible refine (impl_size_bool.calls _ _ l0_2 t275 _ ?side1 ?side2 A2.out).mono ?_); (case side1 => repeat (first | exact (Kd.C_below HR0_2.out HB.out) | (with_reducible refine Kd.C_alloc ?_ _) | (with_reducible refine Kd.C_drewN ?_ _) | (with_reducible refine Kd.C_drew ?_))); (case side2 => exact HC0_2.out); rintro e w' ⟨rfl, ⟨nd, rfl⟩⟩; refine ⟨_, rfl, ?_⟩))
 (try simp only [Act.put, sA, sB, sC])
 go_cut [47] (fun v47 wc => ∃ (kq : Nat) (x47_2 : Bool), v47 = .bool x47_2 ∧ AZ (impl_ValidChecker.j0 kq t275 x47_2 a0_0 a0_1 l0_2 l0_3 l0_4 l0_5 = some r) ∧ AZ (kq ≤ k) ∧ AZ (wc.heap[gb274]? = some (.cells #[.int .i64 a0_0, .int .i64 a0_1, (.slice A0_2 l0_2.length c0_2), (.slice A0_3 l0_3.length c0_3), (.slice A0_4 l0_4.length c0_4), (.slice A0_5 l0_5.length c0_5)] 36 (0, 0))) ∧ AZ (Below w.heap.size w wc))
 case first =>
  have H := HC3.out
  clear HC3
  replace H := Option.bind_eq_some_iff.mp H
  obtain ⟨t276, A60, H⟩ := H
  replace H : (if t276 = true then ((impl_within.f a0_0 1 80).bind fun t277 => (if t277 = true then ((impl_Checker_isState.f a0_0 a0_1 l0_2 l0_3 l0_4 l0_5 a0_1).bind fun t278 => (if t278 = true then ((impl_size_Limpl_Push.f l0_3).bind fun t279 => (if t279 = t275 then ((impl_size_LLint64.f l0_4).bind fun t280 => (if t280 = t275 then ((impl_size_Lint64.f l0_5).bind fun t281 => (impl_ValidChecker.j0 k t275 (t281 != t275) a0_0 a0_1 l0_2 l0_3 l0_4 l0_5)) else (impl_ValidChecker.j0 k t275 true a0_0 a0_1 l0_2 l0_3 l0_4 l0_5))) else (impl_ValidChecker.j0 k t275 true a0_0 a0_1 l0_2 l0_3 l0_4 l0_5))) else (impl_ValidChecker.j0 k t275 true a0_0 a0_1 l0_2 l0_3 l0_4 l0_5))) else (impl_ValidChecker.j0 k t275 true a0_0 a0_1 l0_2 l0_3 l0_4 l0_5))) else (impl_ValidChecker.j0 k t275 true a0_0 a0_1 l0_2 l0_3 l0_4 l0_5)) = some r := H
  have A6 := AZ.mk A60
  clear A60
  by_cases c7 : t276 = true
  rotate_left
  ·replace c7 := Bool.eq_false_iff.mpr c7
   subst c7
   have H1 : (impl_ValidChecker.j0 k t275 true a0_0 a0_1 l0_2 l0_3 l0_4 l0_5) = some r := by rw [if_neg (show ¬ (false = true) by decide)] at H; exact H
   clear H
   have H := H1
   clear H1
   have H' := AZ.mk H
   clear H
   go_wp2_with (first | ((with_reducible refine gate_callee (f := 31) rfl ?_); refine goesL_ (some 12) rfl rfl Try.func31 (by kernel_rfl) rfl #[.int .i64 t275, .int .i64 1, .int .i64 40] rfl (by (try simp only [List.map_toArray, List.map_cons, List.map_nil]); first | done | rfl | (simp only [List.length_drop, List.length_take]; rfl)) ?_; (with_reducible refine (impl_within.calls t275 1 40 false _ A6.out).mono ?_); rintro e w' ⟨rfl, ⟨nd, rfl⟩⟩; refine ⟨_, rfl, ?_⟩))
   go_meet
   case rel => exact ⟨_, (true), (by first | rfl | (simp; done) | (simp [*]; done)), H', ⟨by first | omega | exact Nat.le_refl _⟩, ⟨by (with_reducible repeat (first | refine bn_ ?_ _ | refine bd_ ?_ | refine ba_ ?_ _)); exact BK274.out⟩, ⟨by repeat (first | (with_reducible first | exact HB.out | apply pA | apply pN | apply pD | refine pS ?_ GE274.out) | exact HB.out)⟩⟩
  subst c7
  have H1 : ((impl_within.f a0_0 1 80).bind fun t277 => (if t277 = true then ((impl_Checker_isState.f a0_0 a0_1 l0_2 l0_3 l0_4 l0_5 a0_1).bind fun t278 => (if t278 = true then ((impl_size_Limpl_Push.f l0_3).bind fun t279 => (if t279 = t275 then ((impl_size_LLint64.f l0_4).bind fun t280 => (if t280 = t275 then ((impl_size_Lint64.f l0_5).bind fun t281 => (impl_ValidChecker.j0 k t275 (t281 != t275) a0_0 a0_1 l0_2 l0_3 l0_4 l0_5)) else (impl_ValidChecker.j0 k t275 true a0_0 a0_1 l0_2 l0_3 l0_4 l0_5))) else (impl_ValidChecker.j0 k t275 true a0_0 a0_1 l0_2 l0_3 l0_4 l0_5))) else (impl_ValidChecker.j0 k t275 true a0_0 a0_1 l0_2 l0_3 l0_4 l0_5))) else (impl_ValidChecker.j0 k t275 true a0_0 a0_1 l0_2 l0_3 l0_4 l0_5))) = some r := by rw [if_pos rfl] at H; exact H
  clear H
  have H := H1
  clear H1
  replace H := Option.bind_eq_some_iff.mp H
  obtain ⟨t277, A80, H⟩ := H
  replace H : (if t277 = true then ((impl_Checker_isState.f a0_0 a0_1 l0_2 l0_3 l0_4 l0_5 a0_1).bind fun t278 => (if t278 = true then ((impl_size_Limpl_Push.f l0_3).bind fun t279 => (if t279 = t275 then ((impl_size_LLint64.f l0_4).bind fun t280 => (if t280 = t275 then ((impl_size_Lint64.f l0_5).bind fun t281 => (impl_ValidChecker.j0 k t275 (t281 != t275) a0_0 a0_1 l0_2 l0_3 l0_4 l0_5)) else (impl_ValidChecker.j0 k t275 true a0_0 a0_1 l0_2 l0_3 l0_4 l0_5))) else (impl_ValidChecker.j0 k t275 true a0_0 a0_1 l0_2 l0_3 l0_4 l0_5))) else (impl_ValidChecker.j0 k t275 true a0_0 a0_1 l0_2 l0_3 l0_4 l0_5))) else (impl_ValidChecker.j0 k t275 true a0_0 a0_1 l0_2 l0_3 l0_4 l0_5)) = some r := H
  have A8 := AZ.mk A80
  clear A80
  by_cases c9 : t277 = true
  rotate_left
  ·replace c9 := Bool.eq_false_iff.mpr c9
   subst c9
   have H1 : (impl_ValidChecker.j0 k t275 true a0_0 a0_1 l0_2 l0_3 l0_4 l0_5) = some r := by rw [if_neg (show ¬ (false = true) by decide)] at H; exact H
   clear H
   have H := H1
   clear H1
   have H' := AZ.mk H
   clear H
   go_wp2_with (first | ((with_reducible refine gate_callee (f := 31) rfl ?_); refine goesL_ (some 12) rfl rfl Try.func31 (by kernel_rfl) rfl #[.int .i64 t275, .int .i64 1, .int .i64 40] rfl (by (try simp only [List.map_toArray, List.map_cons, List.map_nil]); first | done | rfl | (simp only [List.length_drop, List.length_take]; rfl)) ?_; (with_reducible refine (impl_within.calls t275 1 40 true _ A6.out).mono ?_); rintro e w' ⟨rfl, ⟨nd, rfl⟩⟩; refine ⟨_, rfl, ?_⟩; obtain ⟨hcz28_0, hcz28_1, hcz28_2, hcz28_3, hcz28_4, hcz28_5⟩ := c6 BK274.out; obtain ⟨hfz28_0, hfz28_1, hfz28_2, hfz28_3, hfz28_4, hfz28_5⟩ := f6 BK274.out) | (go_at_call 31; (with_reducible refine (impl_within.calls a0_0 1 80 false _ A8.out).mono ?_); rintro e w' ⟨rfl, ⟨nd, rfl⟩⟩))
   go_meet
   case rel => exact ⟨_, (true), (by first | rfl | (simp; done) | (simp [*]; done)), H', ⟨by first | omega | exact Nat.le_refl _⟩, ⟨by (with_reducible repeat (first | refine bn_ ?_ _ | refine bd_ ?_ | refine ba_ ?_ _)); exact BK274.out⟩, ⟨by repeat (first | (with_reducible first | exact HB.out | apply pA | apply pN | apply pD | refine pS ?_ GE274.out) | exact HB.out)⟩⟩
  subst c9
  have H1 : ((impl_Checker_isState.f a0_0 a0_1 l0_2 l0_3 l0_4 l0_5 a0_1).bind fun t278 => (if t278 = true then ((impl_size_Limpl_Push.f l0_3).bind fun t279 => (if t279 = t275 then ((impl_size_LLint64.f l0_4).bind fun t280 => (if t280 = t275 then ((impl_size_Lint64.f l0_5).bind fun t281 => (impl_ValidChecker.j0 k t275 (t281 != t275) a0_0 a0_1 l0_2 l0_3 l0_4 l0_5)) else (impl_ValidChecker.j0 k t275 true a0_0 a0_1 l0_2 l0_3 l0_4 l0_5))) else (impl_ValidChecker.j0 k t275 true a0_0 a0_1 l0_2 l0_3 l0_4 l0_5))) else (impl_ValidChecker.j0 k t275 true a0_0 a0_1 l0_2 l0_3 l0_4 l0_5))) = some r := by rw [if_pos rfl] at H; exact H
  clear H
  have H := H1
  clear H1
  replace H := Option.bind_eq_some_iff.mp H
  obtain ⟨t278, A100, H⟩ := H
  replace H : (if t278 = true then ((impl_size_Limpl_Push.f l0_3).bind fun t279 => (if t279 = t275 then ((impl_size_LLint64.f l0_4).bind fun t280 => (if t280 = t275 then ((impl_size_Lint64.f l0_5).bind fun t281 => (impl_ValidChecker.j0 k t275 (t281 != t275) a0_0 a0_1 l0_2 l0_3 l0_4 l0_5)) else (impl_ValidChecker.j0 k t275 true a0_0 a0_1 l0_2 l0_3 l0_4 l0_5))) else (impl_ValidChecker.j0 k t275 true a0_0 a0_1 l0_2 l0_3 l0_4 l0_5))) else (impl_ValidChecker.j0 k t275 true a0_0 a0_1 l0_2 l0_3 l0_4 l0_5)) = some r := H
  have A10 := AZ.mk A100
  clear A100
  by_cases c11 : t278 = true
  rotate_left
  ·replace c11 := Bool.eq_false_iff.mpr c11
   subst c11
   have H1 : (impl_ValidChecker.j0 k t275 true a0_0 a0_1 l0_2 l0_3 l0_4 l0_5) = some r := by rw [if_neg (show ¬ (false = true) by decide)] at H; exact H
   clear H
   have H := H1
   clear H1
   have H' := AZ.mk H
   clear H
   go_wp2_with (first | ((with_reducible refine gate_callee (f := 31) rfl ?_); refine goesL_ (some 12) rfl rfl Try.func31 (by kernel_rfl) rfl #[.int .i64 t275, .int .i64 1, .int .i64 40] rfl (by (try simp only [List.map_toArray, List.map_cons, List.map_nil]); first | done | rfl | (simp only [List.length_drop, List.length_take]; rfl)) ?_; (with_reducible refine (impl_within.calls t275 1 40 true _ A6.out).mono ?_); rintro e w' ⟨rfl, ⟨nd, rfl⟩⟩; refine ⟨_, rfl, ?_⟩; obtain ⟨hcz26_0, hcz26_1, hcz26_2, hcz26_3, hcz26_4, hcz26_5⟩ := c6 BK274.out; obtain ⟨hfz26_0, hfz26_1, hfz26_2, hfz26_3, hfz26_4, hfz26_5⟩ := f6 BK274.out) | (go_at_call 31; (with_reducible refine (impl_within.calls a0_0 1 80 true _ A8.out).mono ?_); rintro e w' ⟨rfl, ⟨nd, rfl⟩⟩) | (go_at_call 49; (with_reducible refine (impl_Checker_isState.calls a0_0 a0_1 _ _ l0_2 _ _ l0_3 _ _ l0_4 _ _ l0_5 a0_1 false _ ?side1 ?side2 ?side3 ?side4 ?side5 ?side6 ?side7 ?side8 A10.out).mono ?_); (case side1 => repeat (first | exact (Kd.C_below HR0_2.out (by repeat (first | (with_reducible first | exact HB.out | apply pA | apply pN | apply pD | refine pS ?_ GE274.out) | exact HB.out))) | (with_reducible refine Kd.C_alloc ?_ _) | (with_reducible refine Kd.C_drewN ?_ _) | (with_reducible refine Kd.C_drew ?_))); (case side2 => exact HC0_2.out); (case side3 => repeat (first | exact (Kd.C_below HR0_3.out (by repeat (first | (with_reducible first | exact HB.out | apply pA | apply pN | apply pD | refine pS ?_ GE274.out) | exact HB.out))) | (with_reducible refine Kd.C_alloc ?_ _) | (with_reducible refine Kd.C_drewN ?_ _) | (with_reducible refine Kd.C_drew ?_))); (case side4 => exact HC0_3.out); (case side5 => repeat (first | exact (Kd.C_below HR0_4.out (by repeat (first | (with_reducible first | exact HB.out | apply pA | apply pN | apply pD | refine pS ?_ GE274.out) | exact HB.out))) | (with_reducible refine Kd.C_alloc ?_ _) | (with_reducible refine Kd.C_drewN ?_ _) | (with_reducible refine Kd.C_drew ?_))); (case side6 => exact HC0_4.out); (case side7 => repeat (first | exact (Kd.C_below HR0_5.out (by repeat (first | (with_reducible first | exact HB.out | apply pA | apply pN | apply pD | refine pS ?_ GE274.out) | exact HB.out))) | (with_reducible refine Kd.C_alloc ?_ _) | (with_reducible refine Kd.C_drewN ?_ _) | (with_reducible refine Kd.C_drew ?_))); (case side8 => exact HC0_5.out); rintro e w27 ⟨rfl, hb⟩; have n0_ := AZ.mk (bb_ (g := gb274) (o := .cells #[.int .i64 a0_0, .int .i64 a0_1, .slice A0_2 l0_2.length c0_2, .slice A0_3 l0_3.length c0_3, .slice A0_4 l0_4.length c0_4, .slice A0_5 l0_5.length c0_5] 36 (0, 0)) (by (with_reducible repeat (first | refine bn_ ?_ _ | refine bd_ ?_ | refine ba_ ?_ _)); exact BK274.out) hb); have n1_ := AZ.mk (pT (by repeat (first | (with_reducible first | exact HB.out | apply pA | apply pN | apply pD | refine pS ?_ GE274.out) | exact HB.out)) hb); clear BK274; clear HB; have BK274 := n0_; have HB := n1_; clear n0_ n1_; (try clear hb); (try clear hb2); (try clear hk); (try clear hi)))
   go_meet
   case rel => exact ⟨_, (true), (by first | rfl | (simp; done) | (simp [*]; done)), H', ⟨by first | omega | exact Nat.le_refl _⟩, ⟨by (with_reducible repeat (first | refine bn_ ?_ _ | refine bd_ ?_ | refine ba_ ?_ _)); exact BK274.out⟩, ⟨by repeat (first | (with_reducible first | exact HB.out | apply pA | apply pN | apply pD | refine pS ?_ GE274.out) | exact HB.out)⟩⟩
  subst c11
  have H1 : ((impl_size_Limpl_Push.f l0_3).bind fun t279 => (if t279 = t275 then ((impl_size_LLint64.f l0_4).bind fun t280 => (if t280 = t275 then ((impl_size_Lint64.f l0_5).bind fun t281 => (impl_ValidChecker.j0 k t275 (t281 != t275) a0_0 a0_1 l0_2 l0_3 l0_4 l0_5)) else (impl_ValidChecker.j0 k t275 true a0_0 a0_1 l0_2 l0_3 l0_4 l0_5))) else (impl_ValidChecker.j0 k t275 true a0_0 a0_1 l0_2 l0_3 l0_4 l0_5))) = some r := by rw [if_pos rfl] at H; exact H
  clear H
  have H := H1
  clear H1
  replace H := Option.bind_eq_some_iff.mp H
  obtain ⟨t279, A120, H⟩ := H
  replace H : (if t279 = t275 then ((impl_size_LLint64.f l0_4).bind fun t280 => (if t280 = t275 then ((impl_size_Lint64.f l0_5).bind fun t281 => (impl_ValidChecker.j0 k t275 (t281 != t275) a0_0 a0_1 l0_2 l0_3 l0_4 l0_5)) else (impl_ValidChecker.j0 k t275 true a0_0 a0_1 l0_2 l0_3 l0_4 l0_5))) else (impl_ValidChecker.j0 k t275 true a0_0 a0_1 l0_2 l0_3 l0_4 l0_5)) = some r := H
  have A12 := AZ.mk A120
  clear A120
  by_cases c13 : t279 = t275
  rotate_left
  ·rw [if_neg c13] at H
   have c13b0 : (t279 == t275) = false := beq_eq_false_iff_ne.mpr c13
   have c13b1 : (t279 != t275) = true := bne_iff_ne.mpr c13
   (first | rw [c13b0] | rw [c13b1] | (simp only [i64_w, i32_w]; rw [c13b0]) | skip)
   have H' := AZ.mk H
   clear H
   go_wp2_with (first | ((with_reducible refine gate_callee (f := 31) rfl ?_); refine goesL_ (some 12) rfl rfl Try.func31 (by kernel_rfl) rfl #[.int .i64 t275, .int .i64 1, .int .i64 40] rfl (by (try simp only [List.map_toArray, List.map_cons, List.map_nil]); first | done | rfl | (simp only [List.length_drop, List.length_take]; rfl)) ?_; (with_reducible refine (impl_within.calls t275 1 40 true _ A6.out).mono ?_); rintro e w' ⟨rfl, ⟨nd, rfl⟩⟩; refine ⟨_, rfl, ?_⟩; obtain ⟨hcz23_0, hcz23_1, hcz23_2, hcz23_3, hcz23_4, hcz23_5⟩ := c6 BK274.out; obtain ⟨hfz23_0, hfz23_1, hfz23_2, hfz23_3, hfz23_4, hfz23_5⟩ := f6 BK274.out) | (go_at_call 31; (with_reducible refine (impl_within.calls a0_0 1 80 true _ A8.out).mono ?_); rintro e w' ⟨rfl, ⟨nd, rfl⟩⟩) | (go_at_call 49; (with_reducible refine (impl_Checker_isState.calls a0_0 a0_1 _ _ l0_2 _ _ l0_3 _ _ l0_4 _ _ l0_5 a0_1 true _ ?side1 ?side2 ?side3 ?side4 ?side5 ?side6 ?side7 ?side8 A10.out).mono ?_); (case side1 => repeat (first | exact (Kd.C_below HR0_2.out (by repeat (first | (with_reducible first | exact HB.out | apply pA | apply pN | apply pD | refine pS ?_ GE274.out) | exact HB.out))) | (with_reducible refine Kd.C_alloc ?_ _) | (with_reducible refine Kd.C_drewN ?_ _) | (with_reducible refine Kd.C_drew ?_))); (case side2 => exact HC0_2.out); (case side3 => repeat (first | exact (Kd.C_below HR0_3.out (by repeat (first | (with_reducible first | exact HB.out | apply pA | apply pN | apply pD | refine pS ?_ GE274.out) | exact HB.out))) | (with_reducible refine Kd.C_alloc ?_ _) | (with_reducible refine Kd.C_drewN ?_ _) | (with_reducible refine Kd.C_drew ?_))); (case side4 => exact HC0_3.out); (case side5 => repeat (first | exact (Kd.C_below HR0_4.out (by repeat (first | (with_reducible first | exact HB.out | apply pA | apply pN | apply pD | refine pS ?_ GE274.out) | exact HB.out))) | (with_reducible refine Kd.C_alloc ?_ _) | (with_reducible refine Kd.C_drewN ?_ _) | (with_reducible refine Kd.C_drew ?_))); (case side6 => exact HC0_4.out); (case side7 => repeat (first | exact (Kd.C_below HR0_5.out (by repeat (first | (with_reducible first | exact HB.out | apply pA | apply pN | apply pD | refine pS ?_ GE274.out) | exact HB.out))) | (with_reducible refine Kd.C_alloc ?_ _) | (with_reducible refine Kd.C_drewN ?_ _) | (with_reducible refine Kd.C_drew ?_))); (case side8 => exact HC0_5.out); rintro e w24 ⟨rfl, hb⟩; have n0_ := AZ.mk (bb_ (g := gb274) (o := .cells #[.int .i64 a0_0, .int .i64 a0_1, .slice A0_2 l0_2.length c0_2, .slice A0_3 l0_3.length c0_3, .slice A0_4 l0_4.length c0_4, .slice A0_5 l0_5.length c0_5] 36 (0, 0)) (by (with_reducible repeat (first | refine bn_ ?_ _ | refine bd_ ?_ | refine ba_ ?_ _)); exact BK274.out) hb); have n1_ := AZ.mk (pT (by repeat (first | (with_reducible first | exact HB.out | apply pA | apply pN | apply pD | refine pS ?_ GE274.out) | exact HB.out)) hb); clear BK274; clear HB; have BK274 := n0_; have HB := n1_; clear n0_ n1_; (try clear hb); (try clear hb2); (try clear hk); (try clear hi); obtain ⟨hcz25_0, hcz25_1, hcz25_2, hcz25_3, hcz25_4, hcz25_5⟩ := c6 BK274.out; obtain ⟨hfz25_0, hfz25_1, hfz25_2, hfz25_3, hfz25_4, hfz25_5⟩ := f6 BK274.out) | (go_at_call 50; (with_reducible refine (impl_size_Limpl_Push.calls _ _ l0_3 t279 _ ?side1 ?side2 A12.out).mono ?_); (case side1 => repeat (first | exact (Kd.C_below HR0_3.out HB.out) | (with_reducible refine Kd.C_alloc ?_ _) | (with_reducible refine Kd.C_drewN ?_ _) | (with_reducible refine Kd.C_drew ?_))); (case side2 => exact HC0_3.out); rintro e w' ⟨rfl, ⟨nd, rfl⟩⟩))
   go_meet
   case rel => exact ⟨_, (true), (by first | rfl | (simp; done) | (simp [*]; done)), H', ⟨by first | omega | exact Nat.le_refl _⟩, ⟨by (with_reducible repeat (first | refine bn_ ?_ _ | refine bd_ ?_ | refine ba_ ?_ _)); exact BK274.out⟩, ⟨by repeat (first | (with_reducible first | exact HB.out | apply pA | apply pN | apply pD | refine pS ?_ GE274.out) | exact HB.out)⟩⟩
  rw [if_pos c13] at H
  have c13b0 : (t279 == t275) = true := beq_iff_eq.mpr c13
  have c13b1 : (t279 != t275) = false := bne_eq_false_iff_eq.mpr c13
  clear c13
  (first | rw [c13b0] | rw [c13b1] | (simp only [i64_w, i32_w]; rw [c13b0]) | skip)
  replace H := Option.bind_eq_some_iff.mp H
  obtain ⟨t280, A140, H⟩ := H
  replace H : (if t280 = t275 then ((impl_size_Lint64.f l0_5).bind fun t281 => (impl_ValidChecker.j0 k t275 (t281 != t275) a0_0 a0_1 l0_2 l0_3 l0_4 l0_5)) else (impl_ValidChecker.j0 k t275 true a0_0 a0_1 l0_2 l0_3 l0_4 l0_5)) = some r := H
  have A14 := AZ.mk A140
  clear A140
  by_cases c15 : t280 = t275
  rotate_left
  ·rw [if_neg c15] at H
   have c15b0 : (t280 == t275) = false := beq_eq_false_iff_ne.mpr c15
   have c15b1 : (t280 != t275) = true := bne_iff_ne.mpr c15
   have H' := AZ.mk H
   clear H
   go_wp2_with (first | ((with_reducible refine gate_callee (f := 31) rfl ?_); refine goesL_ (some 12) rfl rfl Try.func31 (by kernel_rfl) rfl #[.int .i64 t275, .int .i64 1, .int .i64 40] rfl (by (try simp only [List.map_toArray, List.map_cons, List.map_nil]); first | done | rfl | (simp only [List.length_drop, List.length_take]; rfl)) ?_; (with_reducible refine (impl_within.calls t275 1 40 true _ A6.out).mono ?_); rintro e w' ⟨rfl, ⟨nd, rfl⟩⟩; refine ⟨_, rfl, ?_⟩; obtain ⟨hcz20_0, hcz20_1, hcz20_2, hcz20_3, hcz20_4, hcz20_5⟩ := c6 BK274.out; obtain ⟨hfz20_0, hfz20_1, hfz20_2, hfz20_3, hfz20_4, hfz20_5⟩ := f6 BK274.out) | (go_at_call 31; (with_reducible refine (impl_within.calls a0_0 1 80 true _ A8.out).mono ?_); rintro e w' ⟨rfl, ⟨nd, rfl⟩⟩) | (go_at_call 49; (with_reducible refine (impl_Checker_isState.calls a0_0 a0_1 _ _ l0_2 _ _ l0_3 _ _ l0_4 _ _ l0_5 a0_1 true _ ?side1 ?side2 ?side3 ?side4 ?side5 ?side6 ?side7 ?side8 A10.out).mono ?_); (case side1 => repeat (first | exact (Kd.C_below HR0_2.out (by repeat (first | (with_reducible first | exact HB.out | apply pA | apply pN | apply pD | refine pS ?_ GE274.out) | exact HB.out))) | (with_reducible refine Kd.C_alloc ?_ _) | (with_reducible refine Kd.C_drewN ?_ _) | (with_reducible refine Kd.C_drew ?_))); (case side2 => exact HC0_2.out); (case side3 => repeat (first | exact (Kd.C_below HR0_3.out (by repeat (first | (with_reducible first | exact HB.out | apply pA | apply pN | apply pD | refine pS ?_ GE274.out) | exact HB.out))) | (with_reducible refine Kd.C_alloc ?_ _) | (with_reducible refine Kd.C_drewN ?_ _) | (with_reducible refine Kd.C_drew ?_))); (case side4 => exact HC0_3.out); (case side5 => repeat (first | exact (Kd.C_below HR0_4.out (by repeat (first | (with_reducible first | exact HB.out | apply pA | apply pN | apply pD | refine pS ?_ GE274.out) | exact HB.out))) | (with_reducible refine Kd.C_alloc ?_ _) | (with_reducible refine Kd.C_drewN ?_ _) | (with_reducible refine Kd.C_drew ?_))); (case side6 => exact HC0_4.out); (case side7 => repeat (first | exact (Kd.C_below HR0_5.out (by repeat (first | (with_reducible first | exact HB.out | apply pA | apply pN | apply pD | refine pS ?_ GE274.out) | exact HB.out))) | (with_reducible refine Kd.C_alloc ?_ _) | (with_reducible refine Kd.C_drewN ?_ _) | (with_reducible refine Kd.C_drew ?_))); (case side8 => exact HC0_5.out); rintro e w21 ⟨rfl, hb⟩; have n0_ := AZ.mk (bb_ (g := gb274) (o := .cells #[.int .i64 a0_0, .int .i64 a0_1, .slice A0_2 l0_2.length c0_2, .slice A0_3 l0_3.length c0_3, .slice A0_4 l0_4.length c0_4, .slice A0_5 l0_5.length c0_5] 36 (0, 0)) (by (with_reducible repeat (first | refine bn_ ?_ _ | refine bd_ ?_ | refine ba_ ?_ _)); exact BK274.out) hb); have n1_ := AZ.mk (pT (by repeat (first | (with_reducible first | exact HB.out | apply pA | apply pN | apply pD | refine pS ?_ GE274.out) | exact HB.out)) hb); clear BK274; clear HB; have BK274 := n0_; have HB := n1_; clear n0_ n1_; (try clear hb); (try clear hb2); (try clear hk); (try clear hi); obtain ⟨hcz22_0, hcz22_1, hcz22_2, hcz22_3, hcz22_4, hcz22_5⟩ := c6 BK274.out; obtain ⟨hfz22_0, hfz22_1, hfz22_2, hfz22_3, hfz22_4, hfz22_5⟩ := f6 BK274.out) | (go_at_call 50; (with_reducible refine (impl_size_Limpl_Push.calls _ _ l0_3 t279 _ ?side1 ?side2 A12.out).mono ?_); (case side1 => repeat (first | exact (Kd.C_below HR0_3.out HB.out) | (with_reducible refine Kd.C_alloc ?_ _) | (with_reducible refine Kd.C_drewN ?_ _) | (with_reducible refine Kd.C_drew ?_))); (case side2 => exact HC0_3.out); rintro e w' ⟨rfl, ⟨nd, rfl⟩⟩) | (go_at_call 51; (with_reducible refine (impl_size_LLint64.calls _ _ l0_4 t280 _ ?side1 ?side2 A14.out).mono ?_); (case side1 => repeat (first | exact (Kd.C_below HR0_4.out (by repeat (first | (with_reducible first | exact HB.out | apply pA | apply pN | apply pD | refine pS ?_ GE274.out) | exact HB.out))) | (with_reducible refine Kd.C_alloc ?_ _) | (with_reducible refine Kd.C_drewN ?_ _) | (with_reducible refine Kd.C_drew ?_))); (case side2 => exact HC0_4.out); rintro e w' ⟨rfl, ⟨nd, rfl⟩⟩))
   go_meet
   case rel => exact ⟨_, (true), (by first | rfl | (simp; done) | (simp [*]; done)), H', ⟨by first | omega | exact Nat.le_refl _⟩, ⟨by (with_reducible repeat (first | refine bn_ ?_ _ | refine bd_ ?_ | refine ba_ ?_ _)); exact BK274.out⟩, ⟨by repeat (first | (with_reducible first | exact HB.out | apply pA | apply pN | apply pD | refine pS ?_ GE274.out) | exact HB.out)⟩⟩
  rw [if_pos c15] at H
  have c15b0 : (t280 == t275) = true := beq_iff_eq.mpr c15
  have c15b1 : (t280 != t275) = false := bne_eq_false_iff_eq.mpr c15
  clear c15
  replace H := Option.bind_eq_some_iff.mp H
  obtain ⟨t281, A160, H⟩ := H
  replace H : (impl_ValidChecker.j0 k t275 (t281 != t275) a0_0 a0_1 l0_2 l0_3 l0_4 l0_5) = some r := H
  have A16 := AZ.mk A160
  clear A160
  have H' := AZ.mk H
  clear H
  go_wp2_with (first | ((with_reducible refine gate_callee (f := 31) rfl ?_); refine goesL_ (some 12) rfl rfl Try.func31 (by kernel_rfl) rfl #[.int .i64 t275, .int .i64 1, .int .i64 40] rfl (by (try simp only [List.map_toArray, List.map_cons, List.map_nil]); first | done | rfl | (simp only [List.length_drop, List.length_take]; rfl)) ?_; (with_reducible refine (impl_within.calls t275 1 40 true _ A6.out).mono ?_); rintro e w' ⟨rfl, ⟨nd, rfl⟩⟩; refine ⟨_, rfl, ?_⟩; obtain ⟨hcz17_0, hcz17_1, hcz17_2, hcz17_3, hcz17_4, hcz17_5⟩ := c6 BK274.out; obtain ⟨hfz17_0, hfz17_1, hfz17_2, hfz17_3, hfz17_4, hfz17_5⟩ := f6 BK274.out) | (go_at_call 31; (with_reducible refine (impl_within.calls a0_0 1 80 true _ A8.out).mono ?_); rintro e w' ⟨rfl, ⟨nd, rfl⟩⟩) | (go_at_call 49; (with_reducible refine (impl_Checker_isState.calls a0_0 a0_1 _ _ l0_2 _ _ l0_3 _ _ l0_4 _ _ l0_5 a0_1 true _ ?side1 ?side2 ?side3 ?side4 ?side5 ?side6 ?side7 ?side8 A10.out).mono ?_); (case side1 => repeat (first | exact (Kd.C_below HR0_2.out (by repeat (first | (with_reducible first | exact HB.out | apply pA | apply pN | apply pD | refine pS ?_ GE274.out) | exact HB.out))) | (with_reducible refine Kd.C_alloc ?_ _) | (with_reducible refine Kd.C_drewN ?_ _) | (with_reducible refine Kd.C_drew ?_))); (case side2 => exact HC0_2.out); (case side3 => repeat (first | exact (Kd.C_below HR0_3.out (by repeat (first | (with_reducible first | exact HB.out | apply pA | apply pN | apply pD | refine pS ?_ GE274.out) | exact HB.out))) | (with_reducible refine Kd.C_alloc ?_ _) | (with_reducible refine Kd.C_drewN ?_ _) | (with_reducible refine Kd.C_drew ?_))); (case side4 => exact HC0_3.out); (case side5 => repeat (first | exact (Kd.C_below HR0_4.out (by repeat (first | (with_reducible first | exact HB.out | apply pA | apply pN | apply pD | refine pS ?_ GE274.out) | exact HB.out))) | (with_reducible refine Kd.C_alloc ?_ _) | (with_reducible refine Kd.C_drewN ?_ _) | (with_reducible refine Kd.C_drew ?_))); (case side6 => exact HC0_4.out); (case side7 => repeat (first | exact (Kd.C_below HR0_5.out (by repeat (first | (with_reducible first | exact HB.out | apply pA | apply pN | apply pD | refine pS ?_ GE274.out) | exact HB.out))) | (with_reducible refine Kd.C_alloc ?_ _) | (with_reducible refine Kd.C_drewN ?_ _) | (with_reducible refine Kd.C_drew ?_))); (case side8 => exact HC0_5.out); rintro e w18 ⟨rfl, hb⟩; have n0_ := AZ.mk (bb_ (g := gb274) (o := .cells #[.int .i64 a0_0, .int .i64 a0_1, .slice A0_2 l0_2.length c0_2, .slice A0_3 l0_3.length c0_3, .slice A0_4 l0_4.length c0_4, .slice A0_5 l0_5.length c0_5] 36 (0, 0)) (by (with_reducible repeat (first | refine bn_ ?_ _ | refine bd_ ?_ | refine ba_ ?_ _)); exact BK274.out) hb); have n1_ := AZ.mk (pT (by repeat (first | (with_reducible first | exact HB.out | apply pA | apply pN | apply pD | refine pS ?_ GE274.out) | exact HB.out)) hb); clear BK274; clear HB; have BK274 := n0_; have HB := n1_; clear n0_ n1_; (try clear hb); (try clear hb2); (try clear hk); (try clear hi); obtain ⟨hcz19_0, hcz19_1, hcz19_2, hcz19_3, hcz19_4, hcz19_5⟩ := c6 BK274.out; obtain ⟨hfz19_0, hfz19_1, hfz19_2, hfz19_3, hfz19_4, hfz19_5⟩ := f6 BK274.out) | (go_at_call 50; (with_reducible refine (impl_size_Limpl_Push.calls _ _ l0_3 t279 _ ?side1 ?side2 A12.out).mono ?_); (case side1 => repeat (first | exact (Kd.C_below HR0_3.out HB.out) | (with_reducible refine Kd.C_alloc ?_ _) | (with_reducible refine Kd.C_drewN ?_ _) | (with_reducible refine Kd.C_drew ?_))); (case side2 => exact HC0_3.out); rintro e w' ⟨rfl, ⟨nd, rfl⟩⟩) | (go_at_call 51; (with_reducible refine (impl_size_LLint64.calls _ _ l0_4 t280 _ ?side1 ?side2 A14.out).mono ?_); (case side1 => repeat (first | exact (Kd.C_below HR0_4.out (by repeat (first | (with_reducible first | exact HB.out | apply pA | apply pN | apply pD | refine pS ?_ GE274.out) | exact HB.out))) | (with_reducible refine Kd.C_alloc ?_ _) | (with_reducible refine Kd.C_drewN ?_ _) | (with_reducible refine Kd.C_drew ?_))); (case side2 => exact HC0_4.out); rintro e w' ⟨rfl, ⟨nd, rfl⟩⟩) | (go_at_call 52; (with_reducible refine (impl_size_Lint64.calls _ _ l0_5 t281 _ ?side1 ?side2 A16.out).mono ?_); (case side1 => repeat (first | exact (Kd.C_below HR0_5.out (by repeat (first | (with_reducible first | exact HB.out | apply pA | apply pN | apply pD | refine pS ?_ GE274.out) | exact HB.out))) | (with_reducible refine Kd.C_alloc ?_ _) | (with_reducible refine Kd.C_drewN ?_ _) | (with_reducible refine Kd.C_drew ?_))); (case side2 => exact HC0_5.out); rintro e w' ⟨rfl, ⟨nd, rfl⟩⟩))
  go_meet
  case rel => exact ⟨_, ((t281 != t275)), (by first | rfl | (simp; done) | (simp [*]; done)), H', ⟨by first | omega | exact Nat.le_refl _⟩, ⟨by (with_reducible repeat (first | refine bn_ ?_ _ | refine bd_ ?_ | refine ba_ ?_ _)); exact BK274.out⟩, ⟨by repeat (first | (with_reducible first | exact HB.out | apply pA | apply pN | apply pD | refine pS ?_ GE274.out) | exact HB.out)⟩⟩
 case rest =>
  clear HC3
  try clear c1
  try clear p2
  try clear c3
  try clear c4
  try clear c7
  try clear c9
  try clear c11
  try clear c13
  try clear c13b0
  try clear c13b1
  try clear c15
  try clear c15b0
  try clear c15b1
  try clear hcz17_0
  try clear hcz17_1
  try clear hcz17_2
  try clear hcz17_3
  try clear hcz17_4
  try clear hcz17_5
  try clear hcz19_0
  try clear hcz19_1
  try clear hcz19_2
  try clear hcz19_3
  try clear hcz19_4
  try clear hcz19_5
  try clear hcz20_0
  try clear hcz20_1
  try clear hcz20_2
  try clear hcz20_3
  try clear hcz20_4
  try clear hcz20_5
  try clear hcz22_0
  try clear hcz22_1
  try clear hcz22_2
  try clear hcz22_3
  try clear hcz22_4
  try clear hcz22_5
  try clear hcz23_0
  try clear hcz23_1
  try clear hcz23_2
  try clear hcz23_3
  try clear hcz23_4
  try clear hcz23_5
  try clear hcz25_0
  try clear hcz25_1
  try clear hcz25_2
  try clear hcz25_3
  try clear hcz25_4
  try clear hcz25_5
  try clear hcz26_0
  try clear hcz26_1
  try clear hcz26_2
  try clear hcz26_3
  try clear hcz26_4
  try clear hcz26_5
  try clear hcz28_0
  try clear hcz28_1
  try clear hcz28_2
  try clear hcz28_3
  try clear hcz28_4
  try clear hcz28_5
  try clear hcz5_0
  try clear hcz5_1
  try clear hcz5_2
  try clear hcz5_3
  try clear hcz5_4
  try clear hcz5_5
  try clear hfz17_0
  try clear hfz17_1
  try clear hfz17_2
  try clear hfz17_3
  try clear hfz17_4
  try clear hfz17_5
  try clear hfz19_0
  try clear hfz19_1
  try clear hfz19_2
  try clear hfz19_3
  try clear hfz19_4
  try clear hfz19_5
  try clear hfz20_0
  try clear hfz20_1
  try clear hfz20_2
  try clear hfz20_3
  try clear hfz20_4
  try clear hfz20_5
  try clear hfz22_0
  try clear hfz22_1
  try clear hfz22_2
  try clear hfz22_3
  try clear hfz22_4
  try clear hfz22_5
  try clear hfz23_0
  try clear hfz23_1
  try clear hfz23_2
  try clear hfz23_3
  try clear hfz23_4
  try clear hfz23_5
  try clear hfz25_0
  try clear hfz25_1
  try clear hfz25_2
  try clear hfz25_3
  try clear hfz25_4
  try clear hfz25_5
  try clear hfz26_0
  try clear hfz26_1
  try clear hfz26_2
  try clear hfz26_3
  try clear hfz26_4
  try clear hfz26_5
  try clear hfz28_0
  try clear hfz28_1
  try clear hfz28_2
  try clear hfz28_3
  try clear hfz28_4
  try clear hfz28_5
  try clear hfz5_0
  try clear hfz5_1
  try clear hfz5_2
  try clear hfz5_3
  try clear hfz5_4
  try clear hfz5_5
  obtain ⟨kq, x47_2, rfl, HA, HJ2, BK274, HB⟩ := hcut
  cases kq with
  | zero => exact absurd HA.out (by simp [impl_ValidChecker.j0])
  | succ kj2 =>
   have H := HA.out
   clear HA
   simp only [impl_ValidChecker.j0] at H
   by_cases c29 : x47_2 = true
   ·subst c29
    have H1 : (some false) = some r := by rw [if_pos rfl] at H; exact H
    clear H
    have H := H1
    clear H1
    obtain rfl := Option.some.inj H
    go_wp2
    go_ret
    exact ⟨by first | rfl | (simp [errW_none, errW_some] <;> rfl) | (simp [*, errW_none, errW_some] <;> rfl), by repeat (first | (with_reducible first | exact HB.out | apply pA | apply pN | apply pD | refine pS ?_ GE274.out) | exact HB.out)⟩
   replace c29 := Bool.eq_false_iff.mpr c29
   subst c29
   have H1 : (impl_ValidChecker.l0 kj2 t275 0 a0_0 a0_1 l0_2 l0_3 l0_4 l0_5) = some r := by rw [if_neg (show ¬ (false = true) by decide)] at H; exact H
   clear H
   have H := H1
   clear H1
   have H' := AZ.mk H
   clear H
   go_wp2
   go_loopg [50] kj2 (fun kq v50 w' => ∃ (x50_2 : Int), v50 = .int .i64 x50_2 ∧ AZ (impl_ValidChecker.l0 kq t275 x50_2 a0_0 a0_1 l0_2 l0_3 l0_4 l0_5 = some r) ∧ AZ (kq ≤ kj2) ∧ AZ (w'.heap[gb274]? = some (.cells #[.int .i64 a0_0, .int .i64 a0_1, (.slice A0_2 l0_2.length c0_2), (.slice A0_3 l0_3.length c0_3), (.slice A0_4 l0_4.length c0_4), (.slice A0_5 l0_5.length c0_5)] 36 (0, 0))) ∧ AZ (Below w.heap.size w w'))
   case atStart => exact ⟨(0), (by first | rfl | (simp; done) | (simp [*]; done)), H', ⟨Nat.le_refl _⟩, ⟨by (with_reducible repeat (first | refine bn_ ?_ _ | refine bd_ ?_ | refine ba_ ?_ _)); exact BK274.out⟩, ⟨by repeat (first | (with_reducible first | exact HB.out | apply pA | apply pN | apply pD | refine pS ?_ GE274.out) | exact HB.out)⟩⟩
   case round =>
    clear H'
    try clear c1
    try clear c2
    try clear p2
    try clear c3
    try clear c4
    try clear c7
    try clear c9
    try clear c11
    try clear c13
    try clear c13b0
    try clear c13b1
    try clear c15
    try clear c15b0
    try clear c15b1
    try clear c29
    try clear hcz17_0
    try clear hcz17_1
    try clear hcz17_2
    try clear hcz17_3
    try clear hcz17_4
    try clear hcz17_5
    try clear hcz19_0
    try clear hcz19_1
    try clear hcz19_2
    try clear hcz19_3
    try clear hcz19_4
    try clear hcz19_5
    try clear hcz20_0
    try clear hcz20_1
    try clear hcz20_2
    try clear hcz20_3
    try clear hcz20_4
    try clear hcz20_5
    try clear hcz22_0
    try clear hcz22_1
    try clear hcz22_2
    try clear hcz22_3
    try clear hcz22_4
    try clear hcz22_5
    try clear hcz23_0
    try clear hcz23_1
    try clear hcz23_2
    try clear hcz23_3
    try clear hcz23_4
    try clear hcz23_5
    try clear hcz25_0
    try clear hcz25_1
    try clear hcz25_2
    try clear hcz25_3
    try clear hcz25_4
    try clear hcz25_5
    try clear hcz26_0
    try clear hcz26_1
    try clear hcz26_2
    try clear hcz26_3
    try clear hcz26_4
    try clear hcz26_5
    try clear hcz28_0
    try clear hcz28_1
    try clear hcz28_2
    try clear hcz28_3
    try clear hcz28_4
    try clear hcz28_5
    try clear hcz5_0
    try clear hcz5_1
    try clear hcz5_2
    try clear hcz5_3
    try clear hcz5_4
    try clear hcz5_5
    try clear hfz17_0
    try clear hfz17_1
    try clear hfz17_2
    try clear hfz17_3
    try clear hfz17_4
    try clear hfz17_5
    try clear hfz19_0
    try clear hfz19_1
    try clear hfz19_2
    try clear hfz19_3
    try clear hfz19_4
    try clear hfz19_5
    try clear hfz20_0
    try clear hfz20_1
    try clear hfz20_2
    try clear hfz20_3
    try clear hfz20_4
    try clear hfz20_5
    try clear hfz22_0
    try clear hfz22_1
    try clear hfz22_2
    try clear hfz22_3
    try clear hfz22_4
    try clear hfz22_5
    try clear hfz23_0
    try clear hfz23_1
    try clear hfz23_2
    try clear hfz23_3
    try clear hfz23_4
    try clear hfz23_5
    try clear hfz25_0
    try clear hfz25_1
    try clear hfz25_2
    try clear hfz25_3
    try clear hfz25_4
    try clear hfz25_5
    try clear hfz26_0
    try clear hfz26_1
    try clear hfz26_2
    try clear hfz26_3
    try clear hfz26_4
    try clear hfz26_5
    try clear hfz28_0
    try clear hfz28_1
    try clear hfz28_2
    try clear hfz28_3
    try clear hfz28_4
    try clear hfz28_5
    try clear hfz5_0
    try clear hfz5_1
    try clear hfz5_2
    try clear hfz5_3
    try clear hfz5_4
    try clear hfz5_5
    try clear p2
    obtain ⟨x50_2, rfl, HA, HK2, BK274, HB⟩ := hrel
    cases gk with
    | zero => exact absurd HA.out (by simp [impl_ValidChecker.l0])
    | succ k2 =>
     have H := HA.out
     clear HA
     simp only [impl_ValidChecker.l0] at H
     by_cases c30 : x50_2 < t275
     rotate_left
     ·rw [if_neg c30] at H
      have c30b0 : decide (x50_2 < t275) = false := decide_eq_false c30
      clear c30
      obtain rfl := Option.some.inj H
      go_wp2
      go_ret
      exact ⟨by first | rfl | (simp [errW_none, errW_some] <;> rfl) | (simp [*, errW_none, errW_some] <;> rfl), by repeat (first | (with_reducible first | exact HB.out | apply pA | apply pN | apply pD | refine pS ?_ GE274.out) | exact HB.out)⟩
     rw [if_pos c30] at H
     have c30b0 : decide (x50_2 < t275) = true := decide_eq_true c30
     clear c30
     have HC31 := AZ.mk H
     clear H
     go_upto_region 8 with (fail)
     go_cut [78] (fun v78 wc => ∃ (kq : Nat) (x78_30 : Bool), v78 = .bool x78_30 ∧ AZ (impl_ValidChecker.j2 kq x50_2 t275 x50_2 x78_30 a0_0 a0_1 l0_2 l0_3 l0_4 l0_5 = some r) ∧ AZ (kq ≤ k2) ∧ AZ (wc.heap[gb274]? = some (.cells #[.int .i64 a0_0, .int .i64 a0_1, (.slice A0_2 l0_2.length c0_2), (.slice A0_3 l0_3.length c0_3), (.slice A0_4 l0_4.length c0_4), (.slice A0_5 l0_5.length c0_5)] 36 (0, 0))) ∧ AZ (Below w.heap.size w wc))
     case first =>
      have H := HC31.out
      clear HC31
      by_cases c32 : 0 ≤ x50_2
      rotate_left
      ·rw [if_neg c32] at H
       exact absurd H (by simp)
      rw [if_pos c32] at H
      have c32b0 : decide (0 ≤ x50_2) = true := decide_eq_true c32
      clear c32
      (first | rw [c32b0] | rw [c32b1] | (simp only [i64_w, i32_w]; rw [c32b0]) | skip)
      by_cases c33 : x50_2 < (l0_3.length : Int)
      rotate_left
      ·rw [if_neg c33] at H
       exact absurd H (by simp)
      rw [if_pos c33] at H
      have c33b0 : decide (x50_2 < (l0_3.length : Int)) = true := decide_eq_true c33
      clear c33
      by_cases c34 : ((rd_L9 l0_3 x50_2).length : Int) = 2
      rotate_left
      ·rw [if_neg c34] at H
       have c34b0 : (((rd_L9 l0_3 x50_2).length : Int) == 2) = false := beq_eq_false_iff_ne.mpr c34
       have c34b1 : (((rd_L9 l0_3 x50_2).length : Int) != 2) = true := bne_iff_ne.mpr c34
       have H' := AZ.mk H
       clear H
       obtain ⟨hcz42_0, hcz42_1, hcz42_2, hcz42_3, hcz42_4, hcz42_5⟩ := c6 BK274.out
       obtain ⟨hfz42_0, hfz42_1, hfz42_2, hfz42_3, hfz42_4, hfz42_5⟩ := f6 BK274.out
       have p282 : 0 ≤ (x50_2 : Int) := oT (by first | (with_reducible assumption) | assumption)
       have q282 : x50_2 < (l0_3.length : Int) := oT (by first | (with_reducible assumption) | assumption)
       obtain ⟨ad282, A282_0, c282_0, e282, hx282_0, hl282_0, hi282_0⟩ := at_L9 HR0_3.out x50_2 p282 q282
       cases e282
       replace hx282_0 := (HB.out.cell (World.block_lt_of_cell? w _ hx282_0)).trans hx282_0
       have HR282_0 := AZ.mk hi282_0
       have HC282_0 := AZ.mk hl282_0
       clear hi282_0 hl282_0
       replace p282 := eq_true p282
       replace q282 := eq_true q282
       go_wp2
       go_meet
       case rel => exact ⟨_, (true), (by first | rfl | (simp; done) | (simp [*]; done)), H', ⟨by have := HJ2.out; have := HK2.out; first | omega | exact Nat.le_refl _⟩, ⟨by (with_reducible repeat (first | refine bn_ ?_ _ | refine bd_ ?_ | refine ba_ ?_ _)); exact BK274.out⟩, ⟨by repeat (first | (with_reducible first | exact HB.out | apply pA | apply pN | apply pD | refine pS ?_ GE274.out) | exact HB.out)⟩⟩
      rw [if_pos c34] at H
      have c34b0 : (((rd_L9 l0_3 x50_2).length : Int) == 2) = true := beq_iff_eq.mpr c34
      have c34b1 : (((rd_L9 l0_3 x50_2).length : Int) != 2) = false := bne_eq_false_iff_eq.mpr c34
      clear c34
      by_cases c35 : x50_2 < (l0_4.length : Int)
      rotate_left
      ·rw [if_neg c35] at H
       exact absurd H (by simp)
      rw [if_pos c35] at H
      have c35b0 : decide (x50_2 < (l0_4.length : Int)) = true := decide_eq_true c35
      clear c35
      by_cases c36 : ((rd_L7 l0_4 x50_2).length : Int) = 2
      rotate_left
      ·rw [if_neg c36] at H
       have c36b0 : (((rd_L7 l0_4 x50_2).length : Int) == 2) = false := beq_eq_false_iff_ne.mpr c36
       have c36b1 : (((rd_L7 l0_4 x50_2).length : Int) != 2) = true := bne_iff_ne.mpr c36
       have H' := AZ.mk H
       clear H
       obtain ⟨hcz41_0, hcz41_1, hcz41_2, hcz41_3, hcz41_4, hcz41_5⟩ := c6 BK274.out
       obtain ⟨hfz41_0, hfz41_1, hfz41_2, hfz41_3, hfz41_4, hfz41_5⟩ := f6 BK274.out
       have p282 : 0 ≤ (x50_2 : Int) := oT (by first | (with_reducible assumption) | assumption)
       have q282 : x50_2 < (l0_3.length : Int) := oT (by first | (with_reducible assumption) | assumption)
       obtain ⟨ad282, A282_0, c282_0, e282, hx282_0, hl282_0, hi282_0⟩ := at_L9 HR0_3.out x50_2 p282 q282
       cases e282
       replace hx282_0 := (HB.out.cell (World.block_lt_of_cell? w _ hx282_0)).trans hx282_0
       have HR282_0 := AZ.mk hi282_0
       have HC282_0 := AZ.mk hl282_0
       clear hi282_0 hl282_0
       replace p282 := eq_true p282
       replace q282 := eq_true q282
       have p283 : 0 ≤ (x50_2 : Int) := oT (by first | (with_reducible assumption) | assumption)
       have q283 : x50_2 < (l0_4.length : Int) := oT (by first | (with_reducible assumption) | assumption)
       obtain ⟨ad283, A283_0, c283_0, e283, hx283_0, hl283_0, hi283_0⟩ := at_L7 HR0_4.out x50_2 p283 q283
       cases e283
       replace hx283_0 := (HB.out.cell (World.block_lt_of_cell? w _ hx283_0)).trans hx283_0
       have HR283_0 := AZ.mk hi283_0
       have HC283_0 := AZ.mk hl283_0
       clear hi283_0 hl283_0
       replace p283 := eq_true p283
       replace q283 := eq_true q283
       go_wp2
       go_meet
       case rel => exact ⟨_, (true), (by first | rfl | (simp; done) | (simp [*]; done)), H', ⟨by have := HJ2.out; have := HK2.out; first | omega | exact Nat.le_refl _⟩, ⟨by (with_reducible repeat (first | refine bn_ ?_ _ | refine bd_ ?_ | refine ba_ ?_ _)); exact BK274.out⟩, ⟨by repeat (first | (with_reducible first | exact HB.out | apply pA | apply pN | apply pD | refine pS ?_ GE274.out) | exact HB.out)⟩⟩
      rw [if_pos c36] at H
      have c36b0 : (((rd_L7 l0_4 x50_2).length : Int) == 2) = true := beq_iff_eq.mpr c36
      have c36b1 : (((rd_L7 l0_4 x50_2).length : Int) != 2) = false := bne_eq_false_iff_eq.mpr c36
      clear c36
      by_cases c37 : x50_2 < (l0_5.length : Int)
      rotate_left
      ·rw [if_neg c37] at H
       exact absurd H (by simp)
      rw [if_pos c37] at H
      have c37b0 : decide (x50_2 < (l0_5.length : Int)) = true := decide_eq_true c37
      clear c37
      replace H := Option.bind_eq_some_iff.mp H
      obtain ⟨t285, A380, H⟩ := H
      replace H : (impl_ValidChecker.j2 k2 x50_2 t275 x50_2 (!t285) a0_0 a0_1 l0_2 l0_3 l0_4 l0_5) = some r := H
      have A38 := AZ.mk A380
      clear A380
      have H' := AZ.mk H
      clear H
      obtain ⟨hcz39_0, hcz39_1, hcz39_2, hcz39_3, hcz39_4, hcz39_5⟩ := c6 BK274.out
      obtain ⟨hfz39_0, hfz39_1, hfz39_2, hfz39_3, hfz39_4, hfz39_5⟩ := f6 BK274.out
      have p282 : 0 ≤ (x50_2 : Int) := oT (by first | (with_reducible assumption) | assumption)
      have q282 : x50_2 < (l0_3.length : Int) := oT (by first | (with_reducible assumption) | assumption)
      obtain ⟨ad282, A282_0, c282_0, e282, hx282_0, hl282_0, hi282_0⟩ := at_L9 HR0_3.out x50_2 p282 q282
      cases e282
      replace hx282_0 := (HB.out.cell (World.block_lt_of_cell? w _ hx282_0)).trans hx282_0
      have HR282_0 := AZ.mk hi282_0
      have HC282_0 := AZ.mk hl282_0
      clear hi282_0 hl282_0
      replace p282 := eq_true p282
      replace q282 := eq_true q282
      have p283 : 0 ≤ (x50_2 : Int) := oT (by first | (with_reducible assumption) | assumption)
      have q283 : x50_2 < (l0_4.length : Int) := oT (by first | (with_reducible assumption) | assumption)
      obtain ⟨ad283, A283_0, c283_0, e283, hx283_0, hl283_0, hi283_0⟩ := at_L7 HR0_4.out x50_2 p283 q283
      cases e283
      replace hx283_0 := (HB.out.cell (World.block_lt_of_cell? w _ hx283_0)).trans hx283_0
      have HR283_0 := AZ.mk hi283_0
      have HC283_0 := AZ.mk hl283_0
      clear hi283_0 hl283_0
      replace p283 := eq_true p283
      replace q283 := eq_true q283
      have p284 : 0 ≤ (x50_2 : Int) := oT (by first | (with_reducible assumption) | assumption)
      have q284 : x50_2 < (l0_5.length : Int) := oT (by first | (with_reducible assumption) | assumption)
      obtain ⟨ad284, A284_0, c284_0, e284, hx284_0, hl284_0, hi284_0⟩ := at_L6 HR0_5.out x50_2 p284 q284
      cases e284
      replace hx284_0 := (HB.out.cell (World.block_lt_of_cell? w _ hx284_0)).trans hx284_0
      have HR284_0 := AZ.mk hi284_0
      have HC284_0 := AZ.mk hl284_0
      clear hi284_0 hl284_0
      replace p284 := eq_true p284
      replace q284 := eq_true q284
      go_wp2_with (first | (go_at_call 53; (with_reducible refine (impl_ValidChecker_1_c.calls k2 _ _ (rd_L6 l0_5 x50_2) 2 gb274 a0_0 a0_1 A0_2 c0_2 l0_2 (some ad282) c0_3 l0_3 (some ad283) c0_4 l0_4 (some ad284) c0_5 l0_5 t285 _ ?side1 ?side2 ?side3 ?side4 ?side5 ?side6 ?side7 ?side8 ?side9 ?side10 ?side11 A38.out).mono ?_); (case side1 => repeat (first | exact (Kd.C_below HR284_0.out HB.out) | (with_reducible refine Kd.C_alloc ?_ _) | (with_reducible refine Kd.C_drewN ?_ _) | (with_reducible refine Kd.C_drew ?_))); (case side2 => exact HC284_0.out); (case side3 => repeat (first | exact (Kd.C_below HR0_2.out HB.out) | (with_reducible refine Kd.C_alloc ?_ _) | (with_reducible refine Kd.C_drewN ?_ _) | (with_reducible refine Kd.C_drew ?_))); (case side4 => exact HC0_2.out); (case side5 => repeat (first | exact (Kd.C_below HR0_3.out HB.out) | (with_reducible refine Kd.C_alloc ?_ _) | (with_reducible refine Kd.C_drewN ?_ _) | (with_reducible refine Kd.C_drew ?_))); (case side6 => exact HC0_3.out); (case side7 => repeat (first | exact (Kd.C_below HR0_4.out HB.out) | (with_reducible refine Kd.C_alloc ?_ _) | (with_reducible refine Kd.C_drewN ?_ _) | (with_reducible refine Kd.C_drew ?_))); (case side8 => exact HC0_4.out); (case side9 => repeat (first | exact (Kd.C_below HR0_5.out HB.out) | (with_reducible refine Kd.C_alloc ?_ _) | (with_reducible refine Kd.C_drewN ?_ _) | (with_reducible refine Kd.C_drew ?_))); (case side10 => exact HC0_5.out); (case side11 => exact (by (with_reducible repeat (first | refine bn_ ?_ _ | refine bd_ ?_ | refine ba_ ?_ _)); exact BK274.out)); rintro e w40 ⟨rfl, hb⟩; have n0_ := AZ.mk (bb_ (g := gb274) (o := .cells #[.int .i64 a0_0, .int .i64 a0_1, .slice A0_2 l0_2.length c0_2, .slice (some ad282) l0_3.length c0_3, .slice (some ad283) l0_4.length c0_4, .slice (some ad284) l0_5.length c0_5] 36 (0, 0)) (by (with_reducible repeat (first | refine bn_ ?_ _ | refine bd_ ?_ | refine ba_ ?_ _)); exact BK274.out) hb); have n1_ := AZ.mk (pT (by repeat (first | (with_reducible first | exact HB.out | apply pA | apply pN | apply pD | refine pS ?_ GE274.out) | exact HB.out)) hb); clear BK274; clear HB; have BK274 := n0_; have HB := n1_; clear n0_ n1_; (try clear hb); (try clear hb2); (try clear hk); (try clear hi)))
      go_meet
      case rel => exact ⟨_, (!t285), (by first | rfl | (simp; done) | (simp [*]; done)), H', ⟨by have := HJ2.out; have := HK2.out; first | omega | exact Nat.le_refl _⟩, ⟨by (with_reducible repeat (first | refine bn_ ?_ _ | refine bd_ ?_ | refine ba_ ?_ _)); exact BK274.out⟩, ⟨by repeat (first | (with_reducible first | exact HB.out | apply pA | apply pN | apply pD | refine pS ?_ GE274.out) | exact HB.out)⟩⟩
     case rest =>
      clear HC31
      try clear c1
      try clear c2
      try clear p2
      try clear q2
      try clear hx2
      try clear c3
      try clear c4
      try clear c7
      try clear c9
      try clear c11
      try clear c13
      try clear c13b0
      try clear c13b1
      try clear c15
      try clear c15b0
      try clear c15b1
      try clear c28
      try clear p28
      try clear q28
      try clear hx28
      try clear c29
      try clear c30
      try clear c30b0
      try clear c31
      try clear c32
      try clear c32b0
      try clear c32b1
      try clear c33
      try clear c33b0
      try clear c34
      try clear c34b0
      try clear c34b1
      try clear c35
      try clear c35b0
      try clear c36
      try clear c36b0
      try clear c36b1
      try clear c37
      try clear c37b0
      try clear hcz17_0
      try clear hcz17_1
      try clear hcz17_2
      try clear hcz17_3
      try clear hcz17_4
      try clear hcz17_5
      try clear hcz19_0
      try clear hcz19_1
      try clear hcz19_2
      try clear hcz19_3
      try clear hcz19_4
      try clear hcz19_5
      try clear hcz20_0
      try clear hcz20_1
      try clear hcz20_2
      try clear hcz20_3
      try clear hcz20_4
      try clear hcz20_5
      try clear hcz22_0
      try clear hcz22_1
      try clear hcz22_2
      try clear hcz22_3
      try clear hcz22_4
      try clear hcz22_5
      try clear hcz23_0
      try clear hcz23_1
      try clear hcz23_2
      try clear hcz23_3
      try clear hcz23_4
      try clear hcz23_5
      try clear hcz25_0
      try clear hcz25_1
      try clear hcz25_2
      try clear hcz25_3
      try clear hcz25_4
      try clear hcz25_5
      try clear hcz26_0
      try clear hcz26_1
      try clear hcz26_2
      try clear hcz26_3
      try clear hcz26_4
      try clear hcz26_5
      try clear hcz28_0
      try clear hcz28_1
      try clear hcz28_2
      try clear hcz28_3
      try clear hcz28_4
      try clear hcz28_5
      try clear hcz39_0
      try clear hcz39_1
      try clear hcz39_2
      try clear hcz39_3
      try clear hcz39_4
      try clear hcz39_5
      try clear hcz41_0
      try clear hcz41_1
      try clear hcz41_2
      try clear hcz41_3
      try clear hcz41_4
      try clear hcz41_5
      try clear hcz42_0
      try clear hcz42_1
      try clear hcz42_2
      try clear hcz42_3
      try clear hcz42_4
      try clear hcz42_5
      try clear hcz5_0
      try clear hcz5_1
      try clear hcz5_2
      try clear hcz5_3
      try clear hcz5_4
      try clear hcz5_5
      try clear hfz17_0
      try clear hfz17_1
      try clear hfz17_2
      try clear hfz17_3
      try clear hfz17_4
      try clear hfz17_5
      try clear hfz19_0
      try clear hfz19_1
      try clear hfz19_2
      try clear hfz19_3
      try clear hfz19_4
      try clear hfz19_5
      try clear hfz20_0
      try clear hfz20_1
      try clear hfz20_2
      try clear hfz20_3
      try clear hfz20_4
      try clear hfz20_5
      try clear hfz22_0
      try clear hfz22_1
      try clear hfz22_2
      try clear hfz22_3
      try clear hfz22_4
      try clear hfz22_5
      try clear hfz23_0
      try clear hfz23_1
      try clear hfz23_2
      try clear hfz23_3
      try clear hfz23_4
      try clear hfz23_5
      try clear hfz25_0
      try clear hfz25_1
      try clear hfz25_2
      try clear hfz25_3
      try clear hfz25_4
      try clear hfz25_5
      try clear hfz26_0
      try clear hfz26_1
      try clear hfz26_2
      try clear hfz26_3
      try clear hfz26_4
      try clear hfz26_5
      try clear hfz28_0
      try clear hfz28_1
      try clear hfz28_2
      try clear hfz28_3
      try clear hfz28_4
      try clear hfz28_5
      try clear hfz39_0
      try clear hfz39_1
      try clear hfz39_2
      try clear hfz39_3
      try clear hfz39_4
      try clear hfz39_5
      try clear hfz41_0
      try clear hfz41_1
      try clear hfz41_2
      try clear hfz41_3
      try clear hfz41_4
      try clear hfz41_5
      try clear hfz42_0
      try clear hfz42_1
      try clear hfz42_2
      try clear hfz42_3
      try clear hfz42_4
      try clear hfz42_5
      try clear hfz5_0
      try clear hfz5_1
      try clear hfz5_2
      try clear hfz5_3
      try clear hfz5_4
      try clear hfz5_5
      try clear hx282_0
      try clear hx283_0
      try clear hx284_0
      try clear p2
      try clear p282
      try clear p283
      try clear p284
      try clear q282
      try clear q283
      try clear q284
      obtain ⟨kq, x78_30, rfl, HA, HJ30, BK274, HB⟩ := hcut
      cases kq with
      | zero => exact absurd HA.out (by simp [impl_ValidChecker.j2])
      | succ kj30 =>
       have H := HA.out
       clear HA
       simp only [impl_ValidChecker.j2] at H
       by_cases c43 : x78_30 = true
       ·subst c43
        have H1 : (some false) = some r := by rw [if_pos rfl] at H; exact H
        clear H
        have H := H1
        clear H1
        obtain rfl := Option.some.inj H
        go_wp2
        go_ret
        exact ⟨by first | rfl | (simp [errW_none, errW_some] <;> rfl) | (simp [*, errW_none, errW_some] <;> rfl), by repeat (first | (with_reducible first | exact HB.out | apply pA | apply pN | apply pD | refine pS ?_ GE274.out) | exact HB.out)⟩
       replace c43 := Bool.eq_false_iff.mpr c43
       subst c43
       have H1 : (impl_ValidChecker.l1 kj30 x50_2 t275 x50_2 0 a0_0 a0_1 l0_2 l0_3 l0_4 l0_5) = some r := by rw [if_neg (show ¬ (false = true) by decide)] at H; exact H
       clear H
       have H := H1
       clear H1
       have H' := AZ.mk H
       clear H
       go_wp2
       go_loopg [79] kj30 (fun kq v79 w' => ∃ (x79_4 : Int), v79 = .int .i64 x79_4 ∧ AZ (impl_ValidChecker.l1 kq x50_2 t275 x50_2 x79_4 a0_0 a0_1 l0_2 l0_3 l0_4 l0_5 = some r) ∧ AZ (kq ≤ kj30) ∧ AZ (w'.heap[gb274]? = some (.cells #[.int .i64 a0_0, .int .i64 a0_1, (.slice A0_2 l0_2.length c0_2), (.slice A0_3 l0_3.length c0_3), (.slice A0_4 l0_4.length c0_4), (.slice A0_5 l0_5.length c0_5)] 36 (0, 0))) ∧ AZ (Below w.heap.size w w'))
       case atStart => exact ⟨(0), (by first | rfl | (simp; done) | (simp [*]; done)), H', ⟨Nat.le_refl _⟩, ⟨by (with_reducible repeat (first | refine bn_ ?_ _ | refine bd_ ?_ | refine ba_ ?_ _)); exact BK274.out⟩, ⟨by repeat (first | (with_reducible first | exact HB.out | apply pA | apply pN | apply pD | refine pS ?_ GE274.out) | exact HB.out)⟩⟩
       case round =>
        clear H'
        try clear c1
        try clear c2
        try clear p2
        try clear q2
        try clear hx2
        try clear c3
        try clear c4
        try clear c7
        try clear c9
        try clear c11
        try clear c13
        try clear c13b0
        try clear c13b1
        try clear c15
        try clear c15b0
        try clear c15b1
        try clear c28
        try clear p28
        try clear q28
        try clear hx28
        try clear c29
        try clear c30
        try clear c30b0
        try clear c31
        try clear c32
        try clear c32b0
        try clear c32b1
        try clear c33
        try clear c33b0
        try clear c34
        try clear c34b0
        try clear c34b1
        try clear c35
        try clear c35b0
        try clear c36
        try clear c36b0
        try clear c36b1
        try clear c37
        try clear c37b0
        try clear c43
        try clear hcz17_0
        try clear hcz17_1
        try clear hcz17_2
        try clear hcz17_3
        try clear hcz17_4
        try clear hcz17_5
        try clear hcz19_0
        try clear hcz19_1
        try clear hcz19_2
        try clear hcz19_3
        try clear hcz19_4
        try clear hcz19_5
        try clear hcz20_0
        try clear hcz20_1
        try clear hcz20_2
        try clear hcz20_3
        try clear hcz20_4
        try clear hcz20_5
        try clear hcz22_0
        try clear hcz22_1
        try clear hcz22_2
        try clear hcz22_3
        try clear hcz22_4
        try clear hcz22_5
        try clear hcz23_0
        try clear hcz23_1
        try clear hcz23_2
        try clear hcz23_3
        try clear hcz23_4
        try clear hcz23_5
        try clear hcz25_0
        try clear hcz25_1
        try clear hcz25_2
        try clear hcz25_3
        try clear hcz25_4
        try clear hcz25_5
        try clear hcz26_0
        try clear hcz26_1
        try clear hcz26_2
        try clear hcz26_3
        try clear hcz26_4
        try clear hcz26_5
        try clear hcz28_0
        try clear hcz28_1
        try clear hcz28_2
        try clear hcz28_3
        try clear hcz28_4
        try clear hcz28_5
        try clear hcz39_0
        try clear hcz39_1
        try clear hcz39_2
        try clear hcz39_3
        try clear hcz39_4
        try clear hcz39_5
        try clear hcz41_0
        try clear hcz41_1
        try clear hcz41_2
        try clear hcz41_3
        try clear hcz41_4
        try clear hcz41_5
        try clear hcz42_0
        try clear hcz42_1
        try clear hcz42_2
        try clear hcz42_3
        try clear hcz42_4
        try clear hcz42_5
        try clear hcz5_0
        try clear hcz5_1
        try clear hcz5_2
        try clear hcz5_3
        try clear hcz5_4
        try clear hcz5_5
        try clear hfz17_0
        try clear hfz17_1
        try clear hfz17_2
        try clear hfz17_3
        try clear hfz17_4
        try clear hfz17_5
        try clear hfz19_0
        try clear hfz19_1
        try clear hfz19_2
        try clear hfz19_3
        try clear hfz19_4
        try clear hfz19_5
        try clear hfz20_0
        try clear hfz20_1
        try clear hfz20_2
        try clear hfz20_3
        try clear hfz20_4
        try clear hfz20_5
        try clear hfz22_0
        try clear hfz22_1
        try clear hfz22_2
        try clear hfz22_3
        try clear hfz22_4
        try clear hfz22_5
        try clear hfz23_0
        try clear hfz23_1
        try clear hfz23_2
        try clear hfz23_3
        try clear hfz23_4
        try clear hfz23_5
        try clear hfz25_0
        try clear hfz25_1
        try clear hfz25_2
        try clear hfz25_3
        try clear hfz25_4
        try clear hfz25_5
        try clear hfz26_0
        try clear hfz26_1
        try clear hfz26_2
        try clear hfz26_3
        try clear hfz26_4
        try clear hfz26_5
        try clear hfz28_0
        try clear hfz28_1
        try clear hfz28_2
        try clear hfz28_3
        try clear hfz28_4
        try clear hfz28_5
        try clear hfz39_0
        try clear hfz39_1
        try clear hfz39_2
        try clear hfz39_3
        try clear hfz39_4
        try clear hfz39_5
        try clear hfz41_0
        try clear hfz41_1
        try clear hfz41_2
        try clear hfz41_3
        try clear hfz41_4
        try clear hfz41_5
        try clear hfz42_0
        try clear hfz42_1
        try clear hfz42_2
        try clear hfz42_3
        try clear hfz42_4
        try clear hfz42_5
        try clear hfz5_0
        try clear hfz5_1
        try clear hfz5_2
        try clear hfz5_3
        try clear hfz5_4
        try clear hfz5_5
        try clear hx282_0
        try clear hx283_0
        try clear hx284_0
        try clear p2
        try clear p28
        try clear p282
        try clear p283
        try clear p284
        try clear q2
        try clear q28
        try clear q282
        try clear q283
        try clear q284
        obtain ⟨x79_4, rfl, HA, HK4, BK274, HB⟩ := hrel
        cases gk with
        | zero => exact absurd HA.out (by simp [impl_ValidChecker.l1])
        | succ k4 =>
         have H := HA.out
         clear HA
         simp only [impl_ValidChecker.l1] at H
         by_cases c44 : x79_4 < 2
         rotate_left
         ·rw [if_neg c44] at H
          have c44b0 : decide (x79_4 < 2) = false := decide_eq_false c44
          clear c44
          have H' := AZ.mk H
          clear H
          go_wp2
          go_roundg k4
          case measure => have := HJ2.out; have := HK2.out; have := HJ30.out; have := HK4.out; omega
          case rel => exact ⟨(wrap64 (x50_2 + 1)), (by first | rfl | (simp; done) | (simp [*]; done)), H', ⟨by have := HJ2.out; have := HK2.out; have := HJ30.out; have := HK4.out; omega⟩, ⟨by (with_reducible repeat (first | refine bn_ ?_ _ | refine bd_ ?_ | refine ba_ ?_ _)); exact BK274.out⟩, ⟨by repeat (first | (with_reducible first | exact HB.out | apply pA | apply pN | apply pD | refine pS ?_ GE274.out) | exact HB.out)⟩⟩
         rw [if_pos c44] at H
         have c44b0 : decide (x79_4 < 2) = true := decide_eq_true c44
         clear c44
         by_cases c45 : 0 ≤ x50_2
         rotate_left
         ·rw [if_neg c45] at H
          exact absurd H (by simp)
         rw [if_pos c45] at H
         have c45b0 : decide (0 ≤ x50_2) = true := decide_eq_true c45
         clear c45
         by_cases c46 : x50_2 < (l0_3.length : Int)
         rotate_left
         ·rw [if_neg c46] at H
          exact absurd H (by simp)
         rw [if_pos c46] at H
         have c46b0 : decide (x50_2 < (l0_3.length : Int)) = true := decide_eq_true c46
         clear c46
         by_cases c47 : 0 ≤ x79_4
         rotate_left
         ·rw [if_neg c47] at H
          exact absurd H (by simp)
         rw [if_pos c47] at H
         have c47b0 : decide (0 ≤ x79_4) = true := decide_eq_true c47
         clear c47
         by_cases c48 : x79_4 < ((rd_L9 l0_3 x50_2).length : Int)
         rotate_left
         ·rw [if_neg c48] at H
          exact absurd H (by simp)
         rw [if_pos c48] at H
         have c48b0 : decide (x79_4 < ((rd_L9 l0_3 x50_2).length : Int)) = true := decide_eq_true c48
         clear c48
         replace H := Option.bind_eq_some_iff.mp H
         obtain ⟨t289, A490, H⟩ := H
         replace H : (if t289 = true then ((impl_Checker_isMark.f a0_0 a0_1 l0_2 l0_3 l0_4 l0_5 ((rd_T92 (rd_L9 l0_3 x50_2) x79_4).f1)).bind fun t290 => (if t290 = true then (if x50_2 < (l0_4.length : Int) then (if x79_4 < ((rd_L7 l0_4 x50_2).length : Int) then ((impl_ValidChecker_1_c.f k4 (rd_L6 (rd_L7 l0_4 x50_2) x79_4) (wrap64 (a0_0 + 1)) a0_0 a0_1 l0_2 l0_3 l0_4 l0_5).bind fun t293 => (if t293 = true then (impl_ValidChecker.l1 k4 x50_2 t275 x50_2 (wrap64 (x79_4 + 1)) a0_0 a0_1 l0_2 l0_3 l0_4 l0_5) else (some false))) else (none)) else (none)) else (some false))) else (some false)) = some r := H
         have A49 := AZ.mk A490
         clear A490
         by_cases c50 : t289 = true
         rotate_left
         ·replace c50 := Bool.eq_false_iff.mpr c50
          subst c50
          have H1 : (some false) = some r := by rw [if_neg (show ¬ (false = true) by decide)] at H; exact H
          clear H
          have H := H1
          clear H1
          obtain rfl := Option.some.inj H
          obtain ⟨hcz83_0, hcz83_1, hcz83_2, hcz83_3, hcz83_4, hcz83_5⟩ := c6 BK274.out
          obtain ⟨hfz83_0, hfz83_1, hfz83_2, hfz83_3, hfz83_4, hfz83_5⟩ := f6 BK274.out
          have p286 : 0 ≤ (x50_2 : Int) := oT (by first | (with_reducible assumption) | assumption)
          have q286 : x50_2 < (l0_3.length : Int) := oT (by first | (with_reducible assumption) | assumption)
          obtain ⟨ad286, A286_0, c286_0, e286, hx286_0, hl286_0, hi286_0⟩ := at_L9 HR0_3.out x50_2 p286 q286
          cases e286
          replace hx286_0 := (HB.out.cell (World.block_lt_of_cell? w _ hx286_0)).trans hx286_0
          have HR286_0 := AZ.mk hi286_0
          have HC286_0 := AZ.mk hl286_0
          clear hi286_0 hl286_0
          replace p286 := eq_true p286
          replace q286 := eq_true q286
          have p287 : 0 ≤ (x79_4 : Int) := oT (by first | (with_reducible assumption) | assumption)
          have q287 : x79_4 < ((rd_L9 l0_3 x50_2).length : Int) := oT (by first | (with_reducible assumption) | assumption)
          obtain ⟨ad287, e287, hx287_0, hx287_1⟩ := at_T92 HR286_0.out x79_4 p287 q287
          cases e287
          replace hx287_0 := (HB.out.cell (World.block_lt_of_cell? w _ hx287_0)).trans hx287_0
          replace hx287_1 := (HB.out.cell (World.block_lt_of_cell? w _ hx287_1)).trans hx287_1
          replace p287 := eq_true p287
          replace q287 := eq_true q287
          try go_wp2_with (first | ((with_reducible refine gate_dst (N := 7) rfl ?_); (try (refine gate_guard (by rfl) ?_; dsimp only)); refine box_event ?hg (N := 7) ?hd (cs := #[.int .i64 0, .int .i64 0]) (t := 92) ?hr ?_; (case hd => rfl); (case hg => rfl); (case hr => first | (go_simp; done) | (go_simp; rfl)); intro gb288 hg w84 hbox hb; have n0_ := AZ.mk (bb_ (g := gb274) (o := .cells #[.int .i64 a0_0, .int .i64 a0_1, .slice A0_2 l0_2.length c0_2, .slice (some ad286) l0_3.length c0_3, .slice A0_4 l0_4.length c0_4, .slice A0_5 l0_5.length c0_5] 36 (0, 0)) (by (with_reducible repeat (first | refine bn_ ?_ _ | refine bd_ ?_ | refine ba_ ?_ _)); exact BK274.out) hb); have n1_ := AZ.mk (pT (by repeat (first | (with_reducible first | exact HB.out | apply pA | apply pN | apply pD | refine pS ?_ GE274.out) | exact HB.out)) hb); have n2_ := AZ.mk (hbox); have n3_ := AZ.mk ((by rw [hg]; exact (pZ (by repeat (first | (with_reducible first | exact HB.out | apply pA | apply pN | apply pD | refine pS ?_ GE274.out) | exact HB.out))) : w.heap.size ≤ gb288)); have n4_ := AZ.mk ((by rw [hg]; exact (pZ (by repeat (first | (with_reducible first | exact HB.out | apply pA | apply pN | apply pD | refine pS ?_ GE274.out) | exact HB.out))) : w.heap.size ≤ gb288)); have n5_ := AZ.mk ((by rw [hg]; exact Nat.ne_of_lt (blk_lt (g := gb274) (o := .cells #[.int .i64 a0_0, .int .i64 a0_1, .slice A0_2 l0_2.length c0_2, .slice (some ad286) l0_3.length c0_3, .slice A0_4 l0_4.length c0_4, .slice A0_5 l0_5.length c0_5] 36 (0, 0)) (by (with_reducible repeat (first | refine bn_ ?_ _ | refine bd_ ?_ | refine ba_ ?_ _)); exact BK274.out)) : gb274 ≠ gb288)); have n6_ := AZ.mk ((by rw [hg]; exact Nat.ne_of_gt (blk_lt (g := gb274) (o := .cells #[.int .i64 a0_0, .int .i64 a0_1, .slice A0_2 l0_2.length c0_2, .slice (some ad286) l0_3.length c0_3, .slice A0_4 l0_4.length c0_4, .slice A0_5 l0_5.length c0_5] 36 (0, 0)) (by (with_reducible repeat (first | refine bn_ ?_ _ | refine bd_ ?_ | refine ba_ ?_ _)); exact BK274.out)) : gb288 ≠ gb274)); clear BK274; clear HB; have BK274 := n0_; have HB := n1_; have BK288 := n2_; have GW288 := n3_; have GE288 := n4_; have NB274_288 := n5_; have NB288_274 := n6_; clear n0_ n1_ n2_ n3_ n4_ n5_ n6_; clear hb hbox hg; have hnb85 := NB288_274.out; have hnc85 := NB274_288.out; have hcz86_0 : w84.cell? ⟨gb288, 0, none⟩ = some (.int .i64 0) := (bc BK288.out 0).trans rfl; have hcz86_1 : w84.cell? ⟨gb288, 1, none⟩ = some (.int .i64 0) := (bc BK288.out 1).trans rfl; have hfz86_0 := bf BK288.out 0; have hfz86_1 := bf BK288.out 1))
          have n0_ : AZ (((w84.setCell ⟨gb288, 0, none⟩ (.int .i64 ((rd_T92 (rd_L9 l0_3 x50_2) x79_4).f0))).setCell ⟨gb288, 1, none⟩ (.int .i64 ((rd_T92 (rd_L9 l0_3 x50_2) x79_4).f1))).heap[gb274]? = some (.cells #[.int .i64 a0_0, .int .i64 a0_1, .slice A0_2 l0_2.length c0_2, .slice (some ad286) l0_3.length c0_3, .slice A0_4 l0_4.length c0_4, .slice A0_5 l0_5.length c0_5] 36 (0, 0))) := ⟨by (with_reducible repeat (first | refine bn_ ?_ _ | refine bd_ ?_ | refine ba_ ?_ _)); refine blk_far ?_ NB274_288.out _; (with_reducible repeat (first | refine bn_ ?_ _ | refine bd_ ?_ | refine ba_ ?_ _)); refine blk_far ?_ NB274_288.out _; (with_reducible repeat (first | refine bn_ ?_ _ | refine bd_ ?_ | refine ba_ ?_ _)); exact BK274.out⟩
          have n1_ : AZ (((w84.setCell ⟨gb288, 0, none⟩ (.int .i64 ((rd_T92 (rd_L9 l0_3 x50_2) x79_4).f0))).setCell ⟨gb288, 1, none⟩ (.int .i64 ((rd_T92 (rd_L9 l0_3 x50_2) x79_4).f1))).heap[gb288]? = some (.cells #[.int .i64 ((rd_T92 (rd_L9 l0_3 x50_2) x79_4).f0), .int .i64 ((rd_T92 (rd_L9 l0_3 x50_2) x79_4).f1)] 92 (0, 0))) := ⟨by (with_reducible repeat (first | refine bn_ ?_ _ | refine bd_ ?_ | refine ba_ ?_ _)); refine blk_put (cs := #[.int .i64 ((rd_T92 (rd_L9 l0_3 x50_2) x79_4).f0), .int .i64 0]) ?_ 1 _ rfl; (with_reducible repeat (first | refine bn_ ?_ _ | refine bd_ ?_ | refine ba_ ?_ _)); refine blk_put (cs := #[.int .i64 0, .int .i64 0]) ?_ 0 _ rfl; (with_reducible repeat (first | refine bn_ ?_ _ | refine bd_ ?_ | refine ba_ ?_ _)); exact BK288.out⟩
          have n2_ : AZ (Below w.heap.size w ((w84.setCell ⟨gb288, 0, none⟩ (.int .i64 ((rd_T92 (rd_L9 l0_3 x50_2) x79_4).f0))).setCell ⟨gb288, 1, none⟩ (.int .i64 ((rd_T92 (rd_L9 l0_3 x50_2) x79_4).f1)))) := ⟨by repeat (first | (with_reducible first | exact HB.out | apply pA | apply pN | apply pD | refine pS ?_ GE274.out | refine pS ?_ GE288.out) | exact HB.out)⟩
          (try clear BK274)
          (try clear BK288)
          (try clear HB)
          generalize ((w84.setCell ⟨gb288, 0, none⟩ (.int .i64 ((rd_T92 (rd_L9 l0_3 x50_2) x79_4).f0))).setCell ⟨gb288, 1, none⟩ (.int .i64 ((rd_T92 (rd_L9 l0_3 x50_2) x79_4).f1))) = w87 at n0_ n1_ n2_ ⊢
          have BK274 := n0_
          have BK288 := n1_
          have HB := n2_
          clear n0_ n1_ n2_
          have n0_ := AZ.mk (bd_ BK274.out)
          have n1_ := AZ.mk (bd_ BK288.out)
          have n2_ := AZ.mk (pD HB.out)
          clear BK274
          clear BK288
          clear HB
          have BK274 := n0_
          have BK288 := n1_
          have HB := n2_
          clear n0_ n1_ n2_
          refine start_ (n := 28) (S := fun w' => w'.cell? ⟨gb274, 0, none⟩ = some (.int .i64 a0_0) ∧ w'.cell? ⟨gb274, 1, none⟩ = some (.int .i64 a0_1) ∧ w'.cell? ⟨gb274, 2, none⟩ = some (.slice A0_2 l0_2.length c0_2) ∧ w'.cell? ⟨gb274, 3, none⟩ = some (.slice (some ad286) l0_3.length c0_3) ∧ w'.cell? ⟨gb274, 4, none⟩ = some (.slice A0_4 l0_4.length c0_4) ∧ w'.cell? ⟨gb274, 5, none⟩ = some (.slice A0_5 l0_5.length c0_5) ∧ w'.cell? ⟨gb288, 0, none⟩ = some (.int .i64 ((rd_T92 (rd_L9 l0_3 x50_2) x79_4).f0)) ∧ w'.cell? ⟨gb288, 1, none⟩ = some (.int .i64 ((rd_T92 (rd_L9 l0_3 x50_2) x79_4).f1))) (ds := []) (bz 28 0) (by kernel_rfl) rfl rfl ⟨(bc BK274.out 0).trans rfl, (bc BK274.out 1).trans rfl, (bc BK274.out 2).trans rfl, (bc BK274.out 3).trans rfl, (bc BK274.out 4).trans rfl, (bc BK274.out 5).trans rfl, (bc BK288.out 0).trans rfl, (bc BK288.out 1).trans rfl⟩ (fun hHeld => ?_); refine with_tabW impl_ValidChecker.tab14 impl_ValidChecker.bits14 (fun HT_ HW_ => ?_)
          generalize w87.drew = w88 at BK274 BK288 HB hHeld ⊢
          iterate 3 (first | (refine pz_ HT_ impl_ValidChecker.cz0 rfl rfl rfl (v := ?_) (a' := ?_) (by kernel_rfl) (fun _ _ _ h => h) (Or.inl ⟨by rfl, ?_⟩) ?_ ?_; rotate_left; (intro w'; go_simp; with_reducible rfl); rotate_left; (simp only [Act.put, sA, sB, sC, i64_w, i32_w]; rfl)) | (refine tz_ HT_ HW_ impl_ValidChecker.cz0 rfl rfl rfl (v := ?_) (a' := ?_) (by kernel_rfl) (fun _ _ _ h => h) (Or.inl ⟨by rfl, ?_⟩) hHeld ?_ ?_; rotate_left; (rintro w' ⟨s0, s1, s2, s3, s4, s5, s6, s7⟩; go_simp; with_reducible rfl); rotate_left; (simp only [Act.put, sA, sB, sC, i64_w, i32_w]; rfl)))
          refine one_ (i := 3) (N := some 93) (bz 28 15) rfl rfl (one_of HT_.out (by kernel_rfl)) (by decide) (fun K hK => ?_)
          refine goes_ Try.func49 (by kernel_rfl) rfl #[.agg #[.int .i64 a0_0, .int .i64 a0_1, .slice A0_2 l0_2.length c0_2, .slice (some ad286) l0_3.length c0_3, .slice A0_4 l0_4.length c0_4, .slice A0_5 l0_5.length c0_5], .int .i64 ((rd_T92 (rd_L9 l0_3 x50_2) x79_4).f0)] (by rfl) rfl rfl (by (try simp only [List.map_toArray, List.map_cons, List.map_nil]); first | done | rfl | (simp only [List.length_drop, List.length_take]; rfl)) ?_
          with_reducible refine (impl_Checker_isState.calls a0_0 a0_1 _ _ l0_2 _ _ l0_3 _ _ l0_4 _ _ l0_5 ((rd_T92 (rd_L9 l0_3 x50_2) x79_4).f0) false _ ?side1 ?side2 ?side3 ?side4 ?side5 ?side6 ?side7 ?side8 A49.out).mono ?_
          (case side1 => repeat (first | exact (Kd.C_below HR0_2.out HB.out) | (with_reducible refine Kd.C_alloc ?_ _) | (with_reducible refine Kd.C_drewN ?_ _) | (with_reducible refine Kd.C_drew ?_)))
          (case side2 => exact HC0_2.out)
          (case side3 => repeat (first | exact (Kd.C_below HR0_3.out HB.out) | (with_reducible refine Kd.C_alloc ?_ _) | (with_reducible refine Kd.C_drewN ?_ _) | (with_reducible refine Kd.C_drew ?_)))
          (case side4 => exact HC0_3.out)
          (case side5 => repeat (first | exact (Kd.C_below HR0_4.out HB.out) | (with_reducible refine Kd.C_alloc ?_ _) | (with_reducible refine Kd.C_drewN ?_ _) | (with_reducible refine Kd.C_drew ?_)))
          (case side6 => exact HC0_4.out)
          (case side7 => repeat (first | exact (Kd.C_below HR0_5.out HB.out) | (with_reducible refine Kd.C_alloc ?_ _) | (with_reducible refine Kd.C_drewN ?_ _) | (with_reducible refine Kd.C_drew ?_)))
          (case side8 => exact HC0_5.out)
          rintro e w89 ⟨rfl, hb⟩
          refine ⟨_, rfl, ?_⟩
          have n0_ := AZ.mk (bb_ (g := gb274) (o := .cells #[.int .i64 a0_0, .int .i64 a0_1, .slice A0_2 l0_2.length c0_2, .slice (some ad286) l0_3.length c0_3, .slice A0_4 l0_4.length c0_4, .slice A0_5 l0_5.length c0_5] 36 (0, 0)) (by (with_reducible repeat (first | refine bn_ ?_ _ | refine bd_ ?_ | refine ba_ ?_ _)); exact BK274.out) hb)
          have n1_ := AZ.mk (bb_ (g := gb288) (o := .cells #[.int .i64 ((rd_T92 (rd_L9 l0_3 x50_2) x79_4).f0), .int .i64 ((rd_T92 (rd_L9 l0_3 x50_2) x79_4).f1)] 92 (0, 0)) (by (with_reducible repeat (first | refine bn_ ?_ _ | refine bd_ ?_ | refine ba_ ?_ _)); exact BK288.out) hb)
          have n2_ := AZ.mk (pT (by repeat (first | (with_reducible first | exact HB.out | apply pA | apply pN | apply pD | refine pS ?_ GE274.out | refine pS ?_ GE288.out) | exact HB.out)) hb)
          clear BK274
          clear BK288
          clear HB
          have BK274 := n0_
          have BK288 := n1_
          have HB := n2_
          clear n0_ n1_ n2_
          (try clear hb)
          (try clear hb2)
          (try clear hk)
          (try clear hi)
          refine hK.out _ _ ⟨(bc BK274.out 0).trans rfl, (bc BK274.out 1).trans rfl, (bc BK274.out 2).trans rfl, (bc BK274.out 3).trans rfl, (bc BK274.out 4).trans rfl, (bc BK274.out 5).trans rfl, (bc BK288.out 0).trans rfl, (bc BK288.out 1).trans rfl⟩ (fun hHeld => ?_)
          clear hK K
          refine norm_ (a' := ?_) ?_ ?_
          rotate_left
          ·show Act.put _ (some 93) _ = _
           simp only [Act.put, sA, sB, sC, i64_w, i32_w]
           rfl
          iterate 24 (first | (refine pz_ HT_ impl_ValidChecker.cz5 rfl rfl rfl (v := ?_) (a' := ?_) (by kernel_rfl) (fun _ _ _ h => h) (Or.inl ⟨by rfl, ?_⟩) ?_ ?_; rotate_left; (intro w'; go_simp; with_reducible rfl); rotate_left; (simp only [Act.put, sA, sB, sC, i64_w, i32_w]; rfl)) | (refine uz_ HT_ impl_ValidChecker.cz5 rfl rfl rfl (v := undef) (a' := ?_) (by kernel_rfl) (fun _ _ _ h => h) (Or.inr ⟨by rfl, rfl⟩) ?_ ?_; rotate_left; (simp only [Act.put, sA, sB, sC, i64_w, i32_w]; rfl)))
          refine done_ (done_of HT_.out (by kernel_rfl)) ?_
          try go_wp2
          go_ret
          exact ⟨by first | rfl | (simp [errW_none, errW_some] <;> rfl) | (simp [*, errW_none, errW_some] <;> rfl), by repeat (first | (with_reducible first | exact HB.out | apply pA | apply pN | apply pD | refine pS ?_ GE274.out | refine pS ?_ GE288.out) | exact HB.out)⟩
         subst c50
         have H1 : ((impl_Checker_isMark.f a0_0 a0_1 l0_2 l0_3 l0_4 l0_5 ((rd_T92 (rd_L9 l0_3 x50_2) x79_4).f1)).bind fun t290 => (if t290 = true then (if x50_2 < (l0_4.length : Int) then (if x79_4 < ((rd_L7 l0_4 x50_2).length : Int) then ((impl_ValidChecker_1_c.f k4 (rd_L6 (rd_L7 l0_4 x50_2) x79_4) (wrap64 (a0_0 + 1)) a0_0 a0_1 l0_2 l0_3 l0_4 l0_5).bind fun t293 => (if t293 = true then (impl_ValidChecker.l1 k4 x50_2 t275 x50_2 (wrap64 (x79_4 + 1)) a0_0 a0_1 l0_2 l0_3 l0_4 l0_5) else (some false))) else (none)) else (none)) else (some false))) = some r := by rw [if_pos rfl] at H; exact H
         clear H
         have H := H1
         clear H1
         replace H := Option.bind_eq_some_iff.mp H
         obtain ⟨t290, A510, H⟩ := H
         replace H : (if t290 = true then (if x50_2 < (l0_4.length : Int) then (if x79_4 < ((rd_L7 l0_4 x50_2).length : Int) then ((impl_ValidChecker_1_c.f k4 (rd_L6 (rd_L7 l0_4 x50_2) x79_4) (wrap64 (a0_0 + 1)) a0_0 a0_1 l0_2 l0_3 l0_4 l0_5).bind fun t293 => (if t293 = true then (impl_ValidChecker.l1 k4 x50_2 t275 x50_2 (wrap64 (x79_4 + 1)) a0_0 a0_1 l0_2 l0_3 l0_4 l0_5) else (some false))) else (none)) else (none)) else (some false)) = some r := H
         have A51 := AZ.mk A510
         clear A510
         by_cases c52 : t290 = true
         rotate_left
         ·replace c52 := Bool.eq_false_iff.mpr c52
          subst c52
          have H1 : (some false) = some r := by rw [if_neg (show ¬ (false = true) by decide)] at H; exact H
          clear H
          have H := H1
          clear H1
          obtain rfl := Option.some.inj H
          obtain ⟨hcz75_0, hcz75_1, hcz75_2, hcz75_3, hcz75_4, hcz75_5⟩ := c6 BK274.out
          obtain ⟨hfz75_0, hfz75_1, hfz75_2, hfz75_3, hfz75_4, hfz75_5⟩ := f6 BK274.out
          have p286 : 0 ≤ (x50_2 : Int) := oT (by first | (with_reducible assumption) | assumption)
          have q286 : x50_2 < (l0_3.length : Int) := oT (by first | (with_reducible assumption) | assumption)
          obtain ⟨ad286, A286_0, c286_0, e286, hx286_0, hl286_0, hi286_0⟩ := at_L9 HR0_3.out x50_2 p286 q286
          cases e286
          replace hx286_0 := (HB.out.cell (World.block_lt_of_cell? w _ hx286_0)).trans hx286_0
          have HR286_0 := AZ.mk hi286_0
          have HC286_0 := AZ.mk hl286_0
          clear hi286_0 hl286_0
          replace p286 := eq_true p286
          replace q286 := eq_true q286
          have p287 : 0 ≤ (x79_4 : Int) := oT (by first | (with_reducible assumption) | assumption)
          have q287 : x79_4 < ((rd_L9 l0_3 x50_2).length : Int) := oT (by first | (with_reducible assumption) | assumption)
          obtain ⟨ad287, e287, hx287_0, hx287_1⟩ := at_T92 HR286_0.out x79_4 p287 q287
          cases e287
          replace hx287_0 := (HB.out.cell (World.block_lt_of_cell? w _ hx287_0)).trans hx287_0
          replace hx287_1 := (HB.out.cell (World.block_lt_of_cell? w _ hx287_1)).trans hx287_1
          replace p287 := eq_true p287
          replace q287 := eq_true q287
          try go_wp2_with (first | ((with_reducible refine gate_dst (N := 7) rfl ?_); (try (refine gate_guard (by rfl) ?_; dsimp only)); refine box_event ?hg (N := 7) ?hd (cs := #[.int .i64 0, .int .i64 0]) (t := 92) ?hr ?_; (case hd => rfl); (case hg => rfl); (case hr => first | (go_simp; done) | (go_simp; rfl)); intro gb288 hg w76 hbox hb; have n0_ := AZ.mk (bb_ (g := gb274) (o := .cells #[.int .i64 a0_0, .int .i64 a0_1, .slice A0_2 l0_2.length c0_2, .slice (some ad286) l0_3.length c0_3, .slice A0_4 l0_4.length c0_4, .slice A0_5 l0_5.length c0_5] 36 (0, 0)) (by (with_reducible repeat (first | refine bn_ ?_ _ | refine bd_ ?_ | refine ba_ ?_ _)); exact BK274.out) hb); have n1_ := AZ.mk (pT (by repeat (first | (with_reducible first | exact HB.out | apply pA | apply pN | apply pD | refine pS ?_ GE274.out) | exact HB.out)) hb); have n2_ := AZ.mk (hbox); have n3_ := AZ.mk ((by rw [hg]; exact (pZ (by repeat (first | (with_reducible first | exact HB.out | apply pA | apply pN | apply pD | refine pS ?_ GE274.out) | exact HB.out))) : w.heap.size ≤ gb288)); have n4_ := AZ.mk ((by rw [hg]; exact (pZ (by repeat (first | (with_reducible first | exact HB.out | apply pA | apply pN | apply pD | refine pS ?_ GE274.out) | exact HB.out))) : w.heap.size ≤ gb288)); have n5_ := AZ.mk ((by rw [hg]; exact Nat.ne_of_lt (blk_lt (g := gb274) (o := .cells #[.int .i64 a0_0, .int .i64 a0_1, .slice A0_2 l0_2.length c0_2, .slice (some ad286) l0_3.length c0_3, .slice A0_4 l0_4.length c0_4, .slice A0_5 l0_5.length c0_5] 36 (0, 0)) (by (with_reducible repeat (first | refine bn_ ?_ _ | refine bd_ ?_ | refine ba_ ?_ _)); exact BK274.out)) : gb274 ≠ gb288)); have n6_ := AZ.mk ((by rw [hg]; exact Nat.ne_of_gt (blk_lt (g := gb274) (o := .cells #[.int .i64 a0_0, .int .i64 a0_1, .slice A0_2 l0_2.length c0_2, .slice (some ad286) l0_3.length c0_3, .slice A0_4 l0_4.length c0_4, .slice A0_5 l0_5.length c0_5] 36 (0, 0)) (by (with_reducible repeat (first | refine bn_ ?_ _ | refine bd_ ?_ | refine ba_ ?_ _)); exact BK274.out)) : gb288 ≠ gb274)); clear BK274; clear HB; have BK274 := n0_; have HB := n1_; have BK288 := n2_; have GW288 := n3_; have GE288 := n4_; have NB274_288 := n5_; have NB288_274 := n6_; clear n0_ n1_ n2_ n3_ n4_ n5_ n6_; clear hb hbox hg; have hnb77 := NB288_274.out; have hnc77 := NB274_288.out; have hcz78_0 : w76.cell? ⟨gb288, 0, none⟩ = some (.int .i64 0) := (bc BK288.out 0).trans rfl; have hcz78_1 : w76.cell? ⟨gb288, 1, none⟩ = some (.int .i64 0) := (bc BK288.out 1).trans rfl; have hfz78_0 := bf BK288.out 0; have hfz78_1 := bf BK288.out 1))
          have n0_ : AZ (((w76.setCell ⟨gb288, 0, none⟩ (.int .i64 ((rd_T92 (rd_L9 l0_3 x50_2) x79_4).f0))).setCell ⟨gb288, 1, none⟩ (.int .i64 ((rd_T92 (rd_L9 l0_3 x50_2) x79_4).f1))).heap[gb274]? = some (.cells #[.int .i64 a0_0, .int .i64 a0_1, .slice A0_2 l0_2.length c0_2, .slice (some ad286) l0_3.length c0_3, .slice A0_4 l0_4.length c0_4, .slice A0_5 l0_5.length c0_5] 36 (0, 0))) := ⟨by (with_reducible repeat (first | refine bn_ ?_ _ | refine bd_ ?_ | refine ba_ ?_ _)); refine blk_far ?_ NB274_288.out _; (with_reducible repeat (first | refine bn_ ?_ _ | refine bd_ ?_ | refine ba_ ?_ _)); refine blk_far ?_ NB274_288.out _; (with_reducible repeat (first | refine bn_ ?_ _ | refine bd_ ?_ | refine ba_ ?_ _)); exact BK274.out⟩
          have n1_ : AZ (((w76.setCell ⟨gb288, 0, none⟩ (.int .i64 ((rd_T92 (rd_L9 l0_3 x50_2) x79_4).f0))).setCell ⟨gb288, 1, none⟩ (.int .i64 ((rd_T92 (rd_L9 l0_3 x50_2) x79_4).f1))).heap[gb288]? = some (.cells #[.int .i64 ((rd_T92 (rd_L9 l0_3 x50_2) x79_4).f0), .int .i64 ((rd_T92 (rd_L9 l0_3 x50_2) x79_4).f1)] 92 (0, 0))) := ⟨by (with_reducible repeat (first | refine bn_ ?_ _ | refine bd_ ?_ | refine ba_ ?_ _)); refine blk_put (cs := #[.int .i64 ((rd_T92 (rd_L9 l0_3 x50_2) x79_4).f0), .int .i64 0]) ?_ 1 _ rfl; (with_reducible repeat (first | refine bn_ ?_ _ | refine bd_ ?_ | refine ba_ ?_ _)); refine blk_put (cs := #[.int .i64 0, .int .i64 0]) ?_ 0 _ rfl; (with_reducible repeat (first | refine bn_ ?_ _ | refine bd_ ?_ | refine ba_ ?_ _)); exact BK288.out⟩
          have n2_ : AZ (Below w.heap.size w ((w76.setCell ⟨gb288, 0, none⟩ (.int .i64 ((rd_T92 (rd_L9 l0_3 x50_2) x79_4).f0))).setCell ⟨gb288, 1, none⟩ (.int .i64 ((rd_T92 (rd_L9 l0_3 x50_2) x79_4).f1)))) := ⟨by repeat (first | (with_reducible first | exact HB.out | apply pA | apply pN | apply pD | refine pS ?_ GE274.out | refine pS ?_ GE288.out) | exact HB.out)⟩
          (try clear BK274)
          (try clear BK288)
          (try clear HB)
          generalize ((w76.setCell ⟨gb288, 0, none⟩ (.int .i64 ((rd_T92 (rd_L9 l0_3 x50_2) x79_4).f0))).setCell ⟨gb288, 1, none⟩ (.int .i64 ((rd_T92 (rd_L9 l0_3 x50_2) x79_4).f1))) = w79 at n0_ n1_ n2_ ⊢
          have BK274 := n0_
          have BK288 := n1_
          have HB := n2_
          clear n0_ n1_ n2_
          have n0_ := AZ.mk (bd_ BK274.out)
          have n1_ := AZ.mk (bd_ BK288.out)
          have n2_ := AZ.mk (pD HB.out)
          clear BK274
          clear BK288
          clear HB
          have BK274 := n0_
          have BK288 := n1_
          have HB := n2_
          clear n0_ n1_ n2_
          refine start_ (n := 28) (S := fun w' => w'.cell? ⟨gb274, 0, none⟩ = some (.int .i64 a0_0) ∧ w'.cell? ⟨gb274, 1, none⟩ = some (.int .i64 a0_1) ∧ w'.cell? ⟨gb274, 2, none⟩ = some (.slice A0_2 l0_2.length c0_2) ∧ w'.cell? ⟨gb274, 3, none⟩ = some (.slice (some ad286) l0_3.length c0_3) ∧ w'.cell? ⟨gb274, 4, none⟩ = some (.slice A0_4 l0_4.length c0_4) ∧ w'.cell? ⟨gb274, 5, none⟩ = some (.slice A0_5 l0_5.length c0_5) ∧ w'.cell? ⟨gb288, 0, none⟩ = some (.int .i64 ((rd_T92 (rd_L9 l0_3 x50_2) x79_4).f0)) ∧ w'.cell? ⟨gb288, 1, none⟩ = some (.int .i64 ((rd_T92 (rd_L9 l0_3 x50_2) x79_4).f1))) (ds := []) (bz 28 0) (by kernel_rfl) rfl rfl ⟨(bc BK274.out 0).trans rfl, (bc BK274.out 1).trans rfl, (bc BK274.out 2).trans rfl, (bc BK274.out 3).trans rfl, (bc BK274.out 4).trans rfl, (bc BK274.out 5).trans rfl, (bc BK288.out 0).trans rfl, (bc BK288.out 1).trans rfl⟩ (fun hHeld => ?_); refine with_tabW impl_ValidChecker.tab14 impl_ValidChecker.bits14 (fun HT_ HW_ => ?_)
          generalize w79.drew = w80 at BK274 BK288 HB hHeld ⊢
          iterate 3 (first | (refine pz_ HT_ impl_ValidChecker.cz0 rfl rfl rfl (v := ?_) (a' := ?_) (by kernel_rfl) (fun _ _ _ h => h) (Or.inl ⟨by rfl, ?_⟩) ?_ ?_; rotate_left; (intro w'; go_simp; with_reducible rfl); rotate_left; (simp only [Act.put, sA, sB, sC, i64_w, i32_w]; rfl)) | (refine tz_ HT_ HW_ impl_ValidChecker.cz0 rfl rfl rfl (v := ?_) (a' := ?_) (by kernel_rfl) (fun _ _ _ h => h) (Or.inl ⟨by rfl, ?_⟩) hHeld ?_ ?_; rotate_left; (rintro w' ⟨s0, s1, s2, s3, s4, s5, s6, s7⟩; go_simp; with_reducible rfl); rotate_left; (simp only [Act.put, sA, sB, sC, i64_w, i32_w]; rfl)))
          refine one_ (i := 3) (N := some 93) (bz 28 15) rfl rfl (one_of HT_.out (by kernel_rfl)) (by decide) (fun K hK => ?_)
          refine goes_ Try.func49 (by kernel_rfl) rfl #[.agg #[.int .i64 a0_0, .int .i64 a0_1, .slice A0_2 l0_2.length c0_2, .slice (some ad286) l0_3.length c0_3, .slice A0_4 l0_4.length c0_4, .slice A0_5 l0_5.length c0_5], .int .i64 ((rd_T92 (rd_L9 l0_3 x50_2) x79_4).f0)] (by rfl) rfl rfl (by (try simp only [List.map_toArray, List.map_cons, List.map_nil]); first | done | rfl | (simp only [List.length_drop, List.length_take]; rfl)) ?_
          with_reducible refine (impl_Checker_isState.calls a0_0 a0_1 _ _ l0_2 _ _ l0_3 _ _ l0_4 _ _ l0_5 ((rd_T92 (rd_L9 l0_3 x50_2) x79_4).f0) true _ ?side1 ?side2 ?side3 ?side4 ?side5 ?side6 ?side7 ?side8 A49.out).mono ?_
          (case side1 => repeat (first | exact (Kd.C_below HR0_2.out HB.out) | (with_reducible refine Kd.C_alloc ?_ _) | (with_reducible refine Kd.C_drewN ?_ _) | (with_reducible refine Kd.C_drew ?_)))
          (case side2 => exact HC0_2.out)
          (case side3 => repeat (first | exact (Kd.C_below HR0_3.out HB.out) | (with_reducible refine Kd.C_alloc ?_ _) | (with_reducible refine Kd.C_drewN ?_ _) | (with_reducible refine Kd.C_drew ?_)))
          (case side4 => exact HC0_3.out)
          (case side5 => repeat (first | exact (Kd.C_below HR0_4.out HB.out) | (with_reducible refine Kd.C_alloc ?_ _) | (with_reducible refine Kd.C_drewN ?_ _) | (with_reducible refine Kd.C_drew ?_)))
          (case side6 => exact HC0_4.out)
          (case side7 => repeat (first | exact (Kd.C_below HR0_5.out HB.out) | (with_reducible refine Kd.C_alloc ?_ _) | (with_reducible refine Kd.C_drewN ?_ _) | (with_reducible refine Kd.C_drew ?_)))
          (case side8 => exact HC0_5.out)
          rintro e w81 ⟨rfl, hb⟩
          refine ⟨_, rfl, ?_⟩
          have n0_ := AZ.mk (bb_ (g := gb274) (o := .cells #[.int .i64 a0_0, .int .i64 a0_1, .slice A0_2 l0_2.length c0_2, .slice (some ad286) l0_3.length c0_3, .slice A0_4 l0_4.length c0_4, .slice A0_5 l0_5.length c0_5] 36 (0, 0)) (by (with_reducible repeat (first | refine bn_ ?_ _ | refine bd_ ?_ | refine ba_ ?_ _)); exact BK274.out) hb)
          have n1_ := AZ.mk (bb_ (g := gb288) (o := .cells #[.int .i64 ((rd_T92 (rd_L9 l0_3 x50_2) x79_4).f0), .int .i64 ((rd_T92 (rd_L9 l0_3 x50_2) x79_4).f1)] 92 (0, 0)) (by (with_reducible repeat (first | refine bn_ ?_ _ | refine bd_ ?_ | refine ba_ ?_ _)); exact BK288.out) hb)
          have n2_ := AZ.mk (pT (by repeat (first | (with_reducible first | exact HB.out | apply pA | apply pN | apply pD | refine pS ?_ GE274.out | refine pS ?_ GE288.out) | exact HB.out)) hb)
          clear BK274
          clear BK288
          clear HB
          have BK274 := n0_
          have BK288 := n1_
          have HB := n2_
          clear n0_ n1_ n2_
          (try clear hb)
          (try clear hb2)
          (try clear hk)
          (try clear hi)
          refine hK.out _ _ ⟨(bc BK274.out 0).trans rfl, (bc BK274.out 1).trans rfl, (bc BK274.out 2).trans rfl, (bc BK274.out 3).trans rfl, (bc BK274.out 4).trans rfl, (bc BK274.out 5).trans rfl, (bc BK288.out 0).trans rfl, (bc BK288.out 1).trans rfl⟩ (fun hHeld => ?_)
          clear hK K
          refine norm_ (a' := ?_) ?_ ?_
          rotate_left
          ·show Act.put _ (some 93) _ = _
           simp only [Act.put, sA, sB, sC, i64_w, i32_w]
           rfl
          iterate 5 (first | (refine pz_ HT_ impl_ValidChecker.cz1 rfl rfl rfl (v := ?_) (a' := ?_) (by kernel_rfl) (fun _ _ _ h => h) (Or.inl ⟨by rfl, ?_⟩) ?_ ?_; rotate_left; (intro w'; go_simp; with_reducible rfl); rotate_left; (simp only [Act.put, sA, sB, sC, i64_w, i32_w]; rfl)) | (refine tz_ HT_ HW_ impl_ValidChecker.cz1 rfl rfl rfl (v := ?_) (a' := ?_) (by kernel_rfl) (fun _ _ _ h => h) (Or.inl ⟨by rfl, ?_⟩) hHeld ?_ ?_; rotate_left; (rintro w' ⟨s0, s1, s2, s3, s4, s5, s6, s7⟩; go_simp; with_reducible rfl); rotate_left; (simp only [Act.put, sA, sB, sC, i64_w, i32_w]; rfl)))
          refine one_ (i := 9) (N := some 99) (bz 28 1023) rfl rfl (one_of HT_.out (by kernel_rfl)) (by decide) (fun K hK => ?_)
          refine goes_ Try.func57 (by kernel_rfl) rfl #[.agg #[.int .i64 a0_0, .int .i64 a0_1, .slice A0_2 l0_2.length c0_2, .slice (some ad286) l0_3.length c0_3, .slice A0_4 l0_4.length c0_4, .slice A0_5 l0_5.length c0_5], .int .i64 ((rd_T92 (rd_L9 l0_3 x50_2) x79_4).f1)] (by rfl) rfl rfl (by (try simp only [List.map_toArray, List.map_cons, List.map_nil]); first | done | rfl | (simp only [List.length_drop, List.length_take]; rfl)) ?_
          with_reducible refine (impl_Checker_isMark.calls a0_0 a0_1 _ _ l0_2 _ _ l0_3 _ _ l0_4 _ _ l0_5 ((rd_T92 (rd_L9 l0_3 x50_2) x79_4).f1) false _ ?side1 ?side2 ?side3 ?side4 ?side5 ?side6 ?side7 ?side8 A51.out).mono ?_
          (case side1 => repeat (first | exact (Kd.C_below HR0_2.out HB.out) | (with_reducible refine Kd.C_alloc ?_ _) | (with_reducible refine Kd.C_drewN ?_ _) | (with_reducible refine Kd.C_drew ?_)))
          (case side2 => exact HC0_2.out)
          (case side3 => repeat (first | exact (Kd.C_below HR0_3.out HB.out) | (with_reducible refine Kd.C_alloc ?_ _) | (with_reducible refine Kd.C_drewN ?_ _) | (with_reducible refine Kd.C_drew ?_)))
          (case side4 => exact HC0_3.out)
          (case side5 => repeat (first | exact (Kd.C_below HR0_4.out HB.out) | (with_reducible refine Kd.C_alloc ?_ _) | (with_reducible refine Kd.C_drewN ?_ _) | (with_reducible refine Kd.C_drew ?_)))
          (case side6 => exact HC0_4.out)
          (case side7 => repeat (first | exact (Kd.C_below HR0_5.out HB.out) | (with_reducible refine Kd.C_alloc ?_ _) | (with_reducible refine Kd.C_drewN ?_ _) | (with_reducible refine Kd.C_drew ?_)))
          (case side8 => exact HC0_5.out)
          rintro e w82 ⟨rfl, hb⟩
          refine ⟨_, rfl, ?_⟩
          have n0_ := AZ.mk (bb_ (g := gb274) (o := .cells #[.int .i64 a0_0, .int .i64 a0_1, .slice A0_2 l0_2.length c0_2, .slice (some ad286) l0_3.length c0_3, .slice A0_4 l0_4.length c0_4, .slice A0_5 l0_5.length c0_5] 36 (0, 0)) (by (with_reducible repeat (first | refine bn_ ?_ _ | refine bd_ ?_ | refine ba_ ?_ _)); exact BK274.out) hb)
          have n1_ := AZ.mk (bb_ (g := gb288) (o := .cells #[.int .i64 ((rd_T92 (rd_L9 l0_3 x50_2) x79_4).f0), .int .i64 ((rd_T92 (rd_L9 l0_3 x50_2) x79_4).f1)] 92 (0, 0)) (by (with_reducible repeat (first | refine bn_ ?_ _ | refine bd_ ?_ | refine ba_ ?_ _)); exact BK288.out) hb)
          have n2_ := AZ.mk (pT (by repeat (first | (with_reducible first | exact HB.out | apply pA | apply pN | apply pD | refine pS ?_ GE274.out | refine pS ?_ GE288.out) | exact HB.out)) hb)
          clear BK274
          clear BK288
          clear HB
          have BK274 := n0_
          have BK288 := n1_
          have HB := n2_
          clear n0_ n1_ n2_
          (try clear hb)
          (try clear hb2)
          (try clear hk)
          (try clear hi)
          refine hK.out _ _ ⟨(bc BK274.out 0).trans rfl, (bc BK274.out 1).trans rfl, (bc BK274.out 2).trans rfl, (bc BK274.out 3).trans rfl, (bc BK274.out 4).trans rfl, (bc BK274.out 5).trans rfl, (bc BK288.out 0).trans rfl, (bc BK288.out 1).trans rfl⟩ (fun hHeld => ?_)
          clear hK K
          refine norm_ (a' := ?_) ?_ ?_
          rotate_left
          ·show Act.put _ (some 99) _ = _
           simp only [Act.put, sA, sB, sC, i64_w, i32_w]
           rfl
          iterate 18 (first | (refine pz_ HT_ impl_ValidChecker.cz4 rfl rfl rfl (v := ?_) (a' := ?_) (by kernel_rfl) (fun _ _ _ h => h) (Or.inl ⟨by rfl, ?_⟩) ?_ ?_; rotate_left; (intro w'; go_simp; with_reducible rfl); rotate_left; (simp only [Act.put, sA, sB, sC, i64_w, i32_w]; rfl)) | (refine uz_ HT_ impl_ValidChecker.cz4 rfl rfl rfl (v := undef) (a' := ?_) (by kernel_rfl) (fun _ _ _ h => h) (Or.inr ⟨by rfl, rfl⟩) ?_ ?_; rotate_left; (simp only [Act.put, sA, sB, sC, i64_w, i32_w]; rfl)))
          refine done_ (done_of HT_.out (by kernel_rfl)) ?_
          try go_wp2
          go_ret
          exact ⟨by first | rfl | (simp [errW_none, errW_some] <;> rfl) | (simp [*, errW_none, errW_some] <;> rfl), by repeat (first | (with_reducible first | exact HB.out | apply pA | apply pN | apply pD | refine pS ?_ GE274.out | refine pS ?_ GE288.out) | exact HB.out)⟩
         subst c52
         have H1 : (if x50_2 < (l0_4.length : Int) then (if x79_4 < ((rd_L7 l0_4 x50_2).length : Int) then ((impl_ValidChecker_1_c.f k4 (rd_L6 (rd_L7 l0_4 x50_2) x79_4) (wrap64 (a0_0 + 1)) a0_0 a0_1 l0_2 l0_3 l0_4 l0_5).bind fun t293 => (if t293 = true then (impl_ValidChecker.l1 k4 x50_2 t275 x50_2 (wrap64 (x79_4 + 1)) a0_0 a0_1 l0_2 l0_3 l0_4 l0_5) else (some false))) else (none)) else (none)) = some r := by rw [if_pos rfl] at H; exact H
         clear H
         have H := H1
         clear H1
         by_cases c53 : x50_2 < (l0_4.length : Int)
         rotate_left
         ·rw [if_neg c53] at H
          exact absurd H (by simp)
         rw [if_pos c53] at H
         have c53b0 : decide (x50_2 < (l0_4.length : Int)) = true := decide_eq_true c53
         clear c53
         by_cases c54 : x79_4 < ((rd_L7 l0_4 x50_2).length : Int)
         rotate_left
         ·rw [if_neg c54] at H
          exact absurd H (by simp)
         rw [if_pos c54] at H
         have c54b0 : decide (x79_4 < ((rd_L7 l0_4 x50_2).length : Int)) = true := decide_eq_true c54
         clear c54
         replace H := Option.bind_eq_some_iff.mp H
         obtain ⟨t293, A550, H⟩ := H
         replace H : (if t293 = true then (impl_ValidChecker.l1 k4 x50_2 t275 x50_2 (wrap64 (x79_4 + 1)) a0_0 a0_1 l0_2 l0_3 l0_4 l0_5) else (some false)) = some r := H
         have A55 := AZ.mk A550
         clear A550
         by_cases c56 : t293 = true
         rotate_left
         ·replace c56 := Bool.eq_false_iff.mpr c56
          subst c56
          have H1 : (some false) = some r := by rw [if_neg (show ¬ (false = true) by decide)] at H; exact H
          clear H
          have H := H1
          clear H1
          obtain rfl := Option.some.inj H
          obtain ⟨hcz66_0, hcz66_1, hcz66_2, hcz66_3, hcz66_4, hcz66_5⟩ := c6 BK274.out
          obtain ⟨hfz66_0, hfz66_1, hfz66_2, hfz66_3, hfz66_4, hfz66_5⟩ := f6 BK274.out
          have p286 : 0 ≤ (x50_2 : Int) := oT (by first | (with_reducible assumption) | assumption)
          have q286 : x50_2 < (l0_3.length : Int) := oT (by first | (with_reducible assumption) | assumption)
          obtain ⟨ad286, A286_0, c286_0, e286, hx286_0, hl286_0, hi286_0⟩ := at_L9 HR0_3.out x50_2 p286 q286
          cases e286
          replace hx286_0 := (HB.out.cell (World.block_lt_of_cell? w _ hx286_0)).trans hx286_0
          have HR286_0 := AZ.mk hi286_0
          have HC286_0 := AZ.mk hl286_0
          clear hi286_0 hl286_0
          replace p286 := eq_true p286
          replace q286 := eq_true q286
          have p287 : 0 ≤ (x79_4 : Int) := oT (by first | (with_reducible assumption) | assumption)
          have q287 : x79_4 < ((rd_L9 l0_3 x50_2).length : Int) := oT (by first | (with_reducible assumption) | assumption)
          obtain ⟨ad287, e287, hx287_0, hx287_1⟩ := at_T92 HR286_0.out x79_4 p287 q287
          cases e287
          replace hx287_0 := (HB.out.cell (World.block_lt_of_cell? w _ hx287_0)).trans hx287_0
          replace hx287_1 := (HB.out.cell (World.block_lt_of_cell? w _ hx287_1)).trans hx287_1
          replace p287 := eq_true p287
          replace q287 := eq_true q287
          try go_wp2_with (first | ((with_reducible refine gate_dst (N := 7) rfl ?_); (try (refine gate_guard (by rfl) ?_; dsimp only)); refine box_event ?hg (N := 7) ?hd (cs := #[.int .i64 0, .int .i64 0]) (t := 92) ?hr ?_; (case hd => rfl); (case hg => rfl); (case hr => first | (go_simp; done) | (go_simp; rfl)); intro gb288 hg w67 hbox hb; have n0_ := AZ.mk (bb_ (g := gb274) (o := .cells #[.int .i64 a0_0, .int .i64 a0_1, .slice A0_2 l0_2.length c0_2, .slice (some ad286) l0_3.length c0_3, .slice A0_4 l0_4.length c0_4, .slice A0_5 l0_5.length c0_5] 36 (0, 0)) (by (with_reducible repeat (first | refine bn_ ?_ _ | refine bd_ ?_ | refine ba_ ?_ _)); exact BK274.out) hb); have n1_ := AZ.mk (pT (by repeat (first | (with_reducible first | exact HB.out | apply pA | apply pN | apply pD | refine pS ?_ GE274.out) | exact HB.out)) hb); have n2_ := AZ.mk (hbox); have n3_ := AZ.mk ((by rw [hg]; exact (pZ (by repeat (first | (with_reducible first | exact HB.out | apply pA | apply pN | apply pD | refine pS ?_ GE274.out) | exact HB.out))) : w.heap.size ≤ gb288)); have n4_ := AZ.mk ((by rw [hg]; exact (pZ (by repeat (first | (with_reducible first | exact HB.out | apply pA | apply pN | apply pD | refine pS ?_ GE274.out) | exact HB.out))) : w.heap.size ≤ gb288)); have n5_ := AZ.mk ((by rw [hg]; exact Nat.ne_of_lt (blk_lt (g := gb274) (o := .cells #[.int .i64 a0_0, .int .i64 a0_1, .slice A0_2 l0_2.length c0_2, .slice (some ad286) l0_3.length c0_3, .slice A0_4 l0_4.length c0_4, .slice A0_5 l0_5.length c0_5] 36 (0, 0)) (by (with_reducible repeat (first | refine bn_ ?_ _ | refine bd_ ?_ | refine ba_ ?_ _)); exact BK274.out)) : gb274 ≠ gb288)); have n6_ := AZ.mk ((by rw [hg]; exact Nat.ne_of_gt (blk_lt (g := gb274) (o := .cells #[.int .i64 a0_0, .int .i64 a0_1, .slice A0_2 l0_2.length c0_2, .slice (some ad286) l0_3.length c0_3, .slice A0_4 l0_4.length c0_4, .slice A0_5 l0_5.length c0_5] 36 (0, 0)) (by (with_reducible repeat (first | refine bn_ ?_ _ | refine bd_ ?_ | refine ba_ ?_ _)); exact BK274.out)) : gb288 ≠ gb274)); clear BK274; clear HB; have BK274 := n0_; have HB := n1_; have BK288 := n2_; have GW288 := n3_; have GE288 := n4_; have NB274_288 := n5_; have NB288_274 := n6_; clear n0_ n1_ n2_ n3_ n4_ n5_ n6_; clear hb hbox hg; have hnb68 := NB288_274.out; have hnc68 := NB274_288.out; have hcz69_0 : w67.cell? ⟨gb288, 0, none⟩ = some (.int .i64 0) := (bc BK288.out 0).trans rfl; have hcz69_1 : w67.cell? ⟨gb288, 1, none⟩ = some (.int .i64 0) := (bc BK288.out 1).trans rfl; have hfz69_0 := bf BK288.out 0; have hfz69_1 := bf BK288.out 1))
          have n0_ : AZ (((w67.setCell ⟨gb288, 0, none⟩ (.int .i64 ((rd_T92 (rd_L9 l0_3 x50_2) x79_4).f0))).setCell ⟨gb288, 1, none⟩ (.int .i64 ((rd_T92 (rd_L9 l0_3 x50_2) x79_4).f1))).heap[gb274]? = some (.cells #[.int .i64 a0_0, .int .i64 a0_1, .slice A0_2 l0_2.length c0_2, .slice (some ad286) l0_3.length c0_3, .slice A0_4 l0_4.length c0_4, .slice A0_5 l0_5.length c0_5] 36 (0, 0))) := ⟨by (with_reducible repeat (first | refine bn_ ?_ _ | refine bd_ ?_ | refine ba_ ?_ _)); refine blk_far ?_ NB274_288.out _; (with_reducible repeat (first | refine bn_ ?_ _ | refine bd_ ?_ | refine ba_ ?_ _)); refine blk_far ?_ NB274_288.out _; (with_reducible repeat (first | refine bn_ ?_ _ | refine bd_ ?_ | refine ba_ ?_ _)); exact BK274.out⟩
          have n1_ : AZ (((w67.setCell ⟨gb288, 0, none⟩ (.int .i64 ((rd_T92 (rd_L9 l0_3 x50_2) x79_4).f0))).setCell ⟨gb288, 1, none⟩ (.int .i64 ((rd_T92 (rd_L9 l0_3 x50_2) x79_4).f1))).heap[gb288]? = some (.cells #[.int .i64 ((rd_T92 (rd_L9 l0_3 x50_2) x79_4).f0), .int .i64 ((rd_T92 (rd_L9 l0_3 x50_2) x79_4).f1)] 92 (0, 0))) := ⟨by (with_reducible repeat (first | refine bn_ ?_ _ | refine bd_ ?_ | refine ba_ ?_ _)); refine blk_put (cs := #[.int .i64 ((rd_T92 (rd_L9 l0_3 x50_2) x79_4).f0), .int .i64 0]) ?_ 1 _ rfl; (with_reducible repeat (first | refine bn_ ?_ _ | refine bd_ ?_ | refine ba_ ?_ _)); refine blk_put (cs := #[.int .i64 0, .int .i64 0]) ?_ 0 _ rfl; (with_reducible repeat (first | refine bn_ ?_ _ | refine bd_ ?_ | refine ba_ ?_ _)); exact BK288.out⟩
          have n2_ : AZ (Below w.heap.size w ((w67.setCell ⟨gb288, 0, none⟩ (.int .i64 ((rd_T92 (rd_L9 l0_3 x50_2) x79_4).f0))).setCell ⟨gb288, 1, none⟩ (.int .i64 ((rd_T92 (rd_L9 l0_3 x50_2) x79_4).f1)))) := ⟨by repeat (first | (with_reducible first | exact HB.out | apply pA | apply pN | apply pD | refine pS ?_ GE274.out | refine pS ?_ GE288.out) | exact HB.out)⟩
          (try clear BK274)
          (try clear BK288)
          (try clear HB)
          generalize ((w67.setCell ⟨gb288, 0, none⟩ (.int .i64 ((rd_T92 (rd_L9 l0_3 x50_2) x79_4).f0))).setCell ⟨gb288, 1, none⟩ (.int .i64 ((rd_T92 (rd_L9 l0_3 x50_2) x79_4).f1))) = w70 at n0_ n1_ n2_ ⊢
          have BK274 := n0_
          have BK288 := n1_
          have HB := n2_
          clear n0_ n1_ n2_
          have n0_ := AZ.mk (bd_ BK274.out)
          have n1_ := AZ.mk (bd_ BK288.out)
          have n2_ := AZ.mk (pD HB.out)
          clear BK274
          clear BK288
          clear HB
          have BK274 := n0_
          have BK288 := n1_
          have HB := n2_
          clear n0_ n1_ n2_
          have p291 : 0 ≤ (x50_2 : Int) := oT (by first | (with_reducible assumption) | assumption)
          have q291 : x50_2 < (l0_4.length : Int) := oT (by first | (with_reducible assumption) | assumption)
          obtain ⟨ad291, A291_0, c291_0, e291, hx291_0, hl291_0, hi291_0⟩ := at_L7 HR0_4.out x50_2 p291 q291
          have hw291_0 := hx291_0
          cases e291
          replace hx291_0 := (HB.out.cell (World.block_lt_of_cell? w _ hx291_0)).trans hx291_0
          have HR291_0 := AZ.mk hi291_0
          have HC291_0 := AZ.mk hl291_0
          clear hi291_0 hl291_0
          replace p291 := eq_true p291
          replace q291 := eq_true q291
          have p292 : 0 ≤ (x79_4 : Int) := oT (by first | (with_reducible assumption) | assumption)
          have q292 : x79_4 < ((rd_L7 l0_4 x50_2).length : Int) := oT (by first | (with_reducible assumption) | assumption)
          obtain ⟨ad292, A292_0, c292_0, e292, hx292_0, hl292_0, hi292_0⟩ := at_L6 HR291_0.out x79_4 p292 q292
          have hw292_0 := hx292_0
          cases e292
          replace hx292_0 := (HB.out.cell (World.block_lt_of_cell? w _ hx292_0)).trans hx292_0
          have HR292_0 := AZ.mk hi292_0
          have HC292_0 := AZ.mk hl292_0
          clear hi292_0 hl292_0
          replace p292 := eq_true p292
          replace q292 := eq_true q292
          refine start_ (n := 28) (S := fun w' => w'.cell? ⟨gb274, 0, none⟩ = some (.int .i64 a0_0) ∧ w'.cell? ⟨gb274, 1, none⟩ = some (.int .i64 a0_1) ∧ w'.cell? ⟨gb274, 2, none⟩ = some (.slice A0_2 l0_2.length c0_2) ∧ w'.cell? ⟨gb274, 3, none⟩ = some (.slice (some ad286) l0_3.length c0_3) ∧ w'.cell? ⟨gb274, 4, none⟩ = some (.slice (some ad291) l0_4.length c0_4) ∧ w'.cell? ⟨gb274, 5, none⟩ = some (.slice A0_5 l0_5.length c0_5) ∧ w'.cell? ⟨gb288, 0, none⟩ = some (.int .i64 ((rd_T92 (rd_L9 l0_3 x50_2) x79_4).f0)) ∧ w'.cell? ⟨gb288, 1, none⟩ = some (.int .i64 ((rd_T92 (rd_L9 l0_3 x50_2) x79_4).f1)) ∧ w'.cell? (ad291.add (x50_2).toNat) = some (.slice (some ad292) (rd_L7 l0_4 x50_2).length c291_0) ∧ w'.cell? (ad292.add (x79_4).toNat) = some (.slice A292_0 (rd_L6 (rd_L7 l0_4 x50_2) x79_4).length c292_0)) (ds := []) (bz 28 0) (by kernel_rfl) rfl rfl ⟨(bc BK274.out 0).trans rfl, (bc BK274.out 1).trans rfl, (bc BK274.out 2).trans rfl, (bc BK274.out 3).trans rfl, (bc BK274.out 4).trans rfl, (bc BK274.out 5).trans rfl, (bc BK288.out 0).trans rfl, (bc BK288.out 1).trans rfl, ((HB.out.cell (World.block_lt_of_cell? w _ hw291_0)).trans hw291_0), ((HB.out.cell (World.block_lt_of_cell? w _ hw292_0)).trans hw292_0)⟩ (fun hHeld => ?_); refine with_tabW impl_ValidChecker.tab14 impl_ValidChecker.bits14 (fun HT_ HW_ => ?_)
          generalize w70.drew = w71 at BK274 BK288 HB HR291_0 HR292_0 hx291_0 hx292_0 hHeld ⊢
          iterate 3 (first | (refine pz_ HT_ impl_ValidChecker.cz0 rfl rfl rfl (v := ?_) (a' := ?_) (by kernel_rfl) (fun _ _ _ h => h) (Or.inl ⟨by rfl, ?_⟩) ?_ ?_; rotate_left; (intro w'; go_simp; with_reducible rfl); rotate_left; (simp only [Act.put, sA, sB, sC, i64_w, i32_w]; rfl)) | (refine tz_ HT_ HW_ impl_ValidChecker.cz0 rfl rfl rfl (v := ?_) (a' := ?_) (by kernel_rfl) (fun _ _ _ h => h) (Or.inl ⟨by rfl, ?_⟩) hHeld ?_ ?_; rotate_left; (rintro w' ⟨s0, s1, s2, s3, s4, s5, s6, s7, s8, s9⟩; go_simp; with_reducible rfl); rotate_left; (simp only [Act.put, sA, sB, sC, i64_w, i32_w]; rfl)))
          refine one_ (i := 3) (N := some 93) (bz 28 15) rfl rfl (one_of HT_.out (by kernel_rfl)) (by decide) (fun K hK => ?_)
          refine goes_ Try.func49 (by kernel_rfl) rfl #[.agg #[.int .i64 a0_0, .int .i64 a0_1, .slice A0_2 l0_2.length c0_2, .slice (some ad286) l0_3.length c0_3, .slice (some ad291) l0_4.length c0_4, .slice A0_5 l0_5.length c0_5], .int .i64 ((rd_T92 (rd_L9 l0_3 x50_2) x79_4).f0)] (by rfl) rfl rfl (by (try simp only [List.map_toArray, List.map_cons, List.map_nil]); first | done | rfl | (simp only [List.length_drop, List.length_take]; rfl)) ?_
          with_reducible refine (impl_Checker_isState.calls a0_0 a0_1 _ _ l0_2 _ _ l0_3 _ _ l0_4 _ _ l0_5 ((rd_T92 (rd_L9 l0_3 x50_2) x79_4).f0) true _ ?side1 ?side2 ?side3 ?side4 ?side5 ?side6 ?side7 ?side8 A49.out).mono ?_
          (case side1 => repeat (first | exact (Kd.C_below HR0_2.out HB.out) | (with_reducible refine Kd.C_alloc ?_ _) | (with_reducible refine Kd.C_drewN ?_ _) | (with_reducible refine Kd.C_drew ?_)))
          (case side2 => exact HC0_2.out)
          (case side3 => repeat (first | exact (Kd.C_below HR0_3.out HB.out) | (with_reducible refine Kd.C_alloc ?_ _) | (with_reducible refine Kd.C_drewN ?_ _) | (with_reducible refine Kd.C_drew ?_)))
          (case side4 => exact HC0_3.out)
          (case side5 => repeat (first | exact (Kd.C_below HR0_4.out HB.out) | (with_reducible refine Kd.C_alloc ?_ _) | (with_reducible refine Kd.C_drewN ?_ _) | (with_reducible refine Kd.C_drew ?_)))
          (case side6 => exact HC0_4.out)
          (case side7 => repeat (first | exact (Kd.C_below HR0_5.out HB.out) | (with_reducible refine Kd.C_alloc ?_ _) | (with_reducible refine Kd.C_drewN ?_ _) | (with_reducible refine Kd.C_drew ?_)))
          (case side8 => exact HC0_5.out)
          rintro e w72 ⟨rfl, hb⟩
          refine ⟨_, rfl, ?_⟩
          have n0_ := AZ.mk (bb_ (g := gb274) (o := .cells #[.int .i64 a0_0, .int .i64 a0_1, .slice A0_2 l0_2.length c0_2, .slice (some ad286) l0_3.length c0_3, .slice (some ad291) l0_4.length c0_4, .slice A0_5 l0_5.length c0_5] 36 (0, 0)) (by (with_reducible repeat (first | refine bn_ ?_ _ | refine bd_ ?_ | refine ba_ ?_ _)); exact BK274.out) hb)
          have n1_ := AZ.mk (bb_ (g := gb288) (o := .cells #[.int .i64 ((rd_T92 (rd_L9 l0_3 x50_2) x79_4).f0), .int .i64 ((rd_T92 (rd_L9 l0_3 x50_2) x79_4).f1)] 92 (0, 0)) (by (with_reducible repeat (first | refine bn_ ?_ _ | refine bd_ ?_ | refine ba_ ?_ _)); exact BK288.out) hb)
          have n2_ := AZ.mk (pT (by repeat (first | (with_reducible first | exact HB.out | apply pA | apply pN | apply pD | refine pS ?_ GE274.out | refine pS ?_ GE288.out) | exact HB.out)) hb)
          clear BK274
          clear BK288
          clear HB
          have BK274 := n0_
          have BK288 := n1_
          have HB := n2_
          clear n0_ n1_ n2_
          (try clear hb)
          (try clear hb2)
          (try clear hk)
          (try clear hi)
          refine hK.out _ _ ⟨(bc BK274.out 0).trans rfl, (bc BK274.out 1).trans rfl, (bc BK274.out 2).trans rfl, (bc BK274.out 3).trans rfl, (bc BK274.out 4).trans rfl, (bc BK274.out 5).trans rfl, (bc BK288.out 0).trans rfl, (bc BK288.out 1).trans rfl, ((HB.out.cell (World.block_lt_of_cell? w _ hw291_0)).trans hw291_0), ((HB.out.cell (World.block_lt_of_cell? w _ hw292_0)).trans hw292_0)⟩ (fun hHeld => ?_)
          clear hK K
          refine norm_ (a' := ?_) ?_ ?_
          rotate_left
          ·show Act.put _ (some 93) _ = _
           simp only [Act.put, sA, sB, sC, i64_w, i32_w]
           rfl
          iterate 5 (first | (refine pz_ HT_ impl_ValidChecker.cz1 rfl rfl rfl (v := ?_) (a' := ?_) (by kernel_rfl) (fun _ _ _ h => h) (Or.inl ⟨by rfl, ?_⟩) ?_ ?_; rotate_left; (intro w'; go_simp; with_reducible rfl); rotate_left; (simp only [Act.put, sA, sB, sC, i64_w, i32_w]; rfl)) | (refine tz_ HT_ HW_ impl_ValidChecker.cz1 rfl rfl rfl (v := ?_) (a' := ?_) (by kernel_rfl) (fun _ _ _ h => h) (Or.inl ⟨by rfl, ?_⟩) hHeld ?_ ?_; rotate_left; (rintro w' ⟨s0, s1, s2, s3, s4, s5, s6, s7, s8, s9⟩; go_simp; with_reducible rfl); rotate_left; (simp only [Act.put, sA, sB, sC, i64_w, i32_w]; rfl)))
          refine one_ (i := 9) (N := some 99) (bz 28 1023) rfl rfl (one_of HT_.out (by kernel_rfl)) (by decide) (fun K hK => ?_)
          refine goes_ Try.func57 (by kernel_rfl) rfl #[.agg #[.int .i64 a0_0, .int .i64 a0_1, .slice A0_2 l0_2.length c0_2, .slice (some ad286) l0_3.length c0_3, .slice (some ad291) l0_4.length c0_4, .slice A0_5 l0_5.length c0_5], .int .i64 ((rd_T92 (rd_L9 l0_3 x50_2) x79_4).f1)] (by rfl) rfl rfl (by (try simp only [List.map_toArray, List.map_cons, List.map_nil]); first | done | rfl | (simp only [List.length_drop, List.length_take]; rfl)) ?_
          with_reducible refine (impl_Checker_isMark.calls a0_0 a0_1 _ _ l0_2 _ _ l0_3 _ _ l0_4 _ _ l0_5 ((rd_T92 (rd_L9 l0_3 x50_2) x79_4).f1) true _ ?side1 ?side2 ?side3 ?side4 ?side5 ?side6 ?side7 ?side8 A51.out).mono ?_
          (case side1 => repeat (first | exact (Kd.C_below HR0_2.out HB.out) | (with_reducible refine Kd.C_alloc ?_ _) | (with_reducible refine Kd.C_drewN ?_ _) | (with_reducible refine Kd.C_drew ?_)))
          (case side2 => exact HC0_2.out)
          (case side3 => repeat (first | exact (Kd.C_below HR0_3.out HB.out) | (with_reducible refine Kd.C_alloc ?_ _) | (with_reducible refine Kd.C_drewN ?_ _) | (with_reducible refine Kd.C_drew ?_)))
          (case side4 => exact HC0_3.out)
          (case side5 => repeat (first | exact (Kd.C_below HR0_4.out HB.out) | (with_reducible refine Kd.C_alloc ?_ _) | (with_reducible refine Kd.C_drewN ?_ _) | (with_reducible refine Kd.C_drew ?_)))
          (case side6 => exact HC0_4.out)
          (case side7 => repeat (first | exact (Kd.C_below HR0_5.out HB.out) | (with_reducible refine Kd.C_alloc ?_ _) | (with_reducible refine Kd.C_drewN ?_ _) | (with_reducible refine Kd.C_drew ?_)))
          (case side8 => exact HC0_5.out)
          rintro e w73 ⟨rfl, hb⟩
          refine ⟨_, rfl, ?_⟩
          have n0_ := AZ.mk (bb_ (g := gb274) (o := .cells #[.int .i64 a0_0, .int .i64 a0_1, .slice A0_2 l0_2.length c0_2, .slice (some ad286) l0_3.length c0_3, .slice (some ad291) l0_4.length c0_4, .slice A0_5 l0_5.length c0_5] 36 (0, 0)) (by (with_reducible repeat (first | refine bn_ ?_ _ | refine bd_ ?_ | refine ba_ ?_ _)); exact BK274.out) hb)
          have n1_ := AZ.mk (bb_ (g := gb288) (o := .cells #[.int .i64 ((rd_T92 (rd_L9 l0_3 x50_2) x79_4).f0), .int .i64 ((rd_T92 (rd_L9 l0_3 x50_2) x79_4).f1)] 92 (0, 0)) (by (with_reducible repeat (first | refine bn_ ?_ _ | refine bd_ ?_ | refine ba_ ?_ _)); exact BK288.out) hb)
          have n2_ := AZ.mk (pT (by repeat (first | (with_reducible first | exact HB.out | apply pA | apply pN | apply pD | refine pS ?_ GE274.out | refine pS ?_ GE288.out) | exact HB.out)) hb)
          clear BK274
          clear BK288
          clear HB
          have BK274 := n0_
          have BK288 := n1_
          have HB := n2_
          clear n0_ n1_ n2_
          (try clear hb)
          (try clear hb2)
          (try clear hk)
          (try clear hi)
          refine hK.out _ _ ⟨(bc BK274.out 0).trans rfl, (bc BK274.out 1).trans rfl, (bc BK274.out 2).trans rfl, (bc BK274.out 3).trans rfl, (bc BK274.out 4).trans rfl, (bc BK274.out 5).trans rfl, (bc BK288.out 0).trans rfl, (bc BK288.out 1).trans rfl, ((HB.out.cell (World.block_lt_of_cell? w _ hw291_0)).trans hw291_0), ((HB.out.cell (World.block_lt_of_cell? w _ hw292_0)).trans hw292_0)⟩ (fun hHeld => ?_)
          clear hK K
          refine norm_ (a' := ?_) ?_ ?_
          rotate_left
          ·show Act.put _ (some 99) _ = _
           simp only [Act.put, sA, sB, sC, i64_w, i32_w]
           rfl
          iterate 15 (first | (refine pz_ HT_ impl_ValidChecker.cz2 rfl rfl rfl (v := ?_) (a' := ?_) (by kernel_rfl) (fun _ _ _ h => h) (Or.inl ⟨by rfl, ?_⟩) ?_ ?_; rotate_left; (intro w'; go_simp; with_reducible rfl); rotate_left; (simp only [Act.put, sA, sB, sC, i64_w, i32_w]; rfl)) | (refine tz_ HT_ HW_ impl_ValidChecker.cz2 rfl rfl rfl (v := ?_) (a' := ?_) (by kernel_rfl) (fun _ _ _ h => h) (Or.inl ⟨by rfl, ?_⟩) hHeld ?_ ?_; rotate_left; (rintro w' ⟨s0, s1, s2, s3, s4, s5, s6, s7, s8, s9⟩; go_simp; with_reducible rfl); rotate_left; (simp only [Act.put, sA, sB, sC, i64_w, i32_w]; rfl)))
          refine one_ (i := 25) (N := some 115) (bz 28 67108863) rfl rfl (one_of HT_.out (by kernel_rfl)) (by decide) (fun K hK => ?_)
          refine goesV_ Try.func53 (by kernel_rfl) rfl #[.slice A292_0 (rd_L6 (rd_L7 l0_4 x50_2) x79_4).length c292_0, .int .i64 (wrap64 (a0_0 + 1))] #[.slice A292_0 (rd_L6 (rd_L7 l0_4 x50_2) x79_4).length c292_0, .int .i64 (wrap64 (a0_0 + 1)), .pointer (some ⟨gb274, 0, none⟩)] (by rfl) rfl rfl (by rfl) (by (try simp only [List.map_toArray, List.map_cons, List.map_nil]); first | done | rfl | (simp only [List.length_drop, List.length_take]; rfl)) (by rfl) ?_
          with_reducible refine (impl_ValidChecker_1_c.calls k4 _ _ (rd_L6 (rd_L7 l0_4 x50_2) x79_4) (wrap64 (a0_0 + 1)) gb274 a0_0 a0_1 A0_2 c0_2 l0_2 (some ad286) c0_3 l0_3 (some ad291) c0_4 l0_4 A0_5 c0_5 l0_5 false _ ?side1 ?side2 ?side3 ?side4 ?side5 ?side6 ?side7 ?side8 ?side9 ?side10 ?side11 A55.out).mono ?_
          (case side1 => repeat (first | exact (Kd.C_below HR292_0.out HB.out) | (with_reducible refine Kd.C_alloc ?_ _) | (with_reducible refine Kd.C_drewN ?_ _) | (with_reducible refine Kd.C_drew ?_)))
          (case side2 => exact HC292_0.out)
          (case side3 => repeat (first | exact (Kd.C_below HR0_2.out HB.out) | (with_reducible refine Kd.C_alloc ?_ _) | (with_reducible refine Kd.C_drewN ?_ _) | (with_reducible refine Kd.C_drew ?_)))
          (case side4 => exact HC0_2.out)
          (case side5 => repeat (first | exact (Kd.C_below HR0_3.out HB.out) | (with_reducible refine Kd.C_alloc ?_ _) | (with_reducible refine Kd.C_drewN ?_ _) | (with_reducible refine Kd.C_drew ?_)))
          (case side6 => exact HC0_3.out)
          (case side7 => repeat (first | exact (Kd.C_below HR0_4.out HB.out) | (with_reducible refine Kd.C_alloc ?_ _) | (with_reducible refine Kd.C_drewN ?_ _) | (with_reducible refine Kd.C_drew ?_)))
          (case side8 => exact HC0_4.out)
          (case side9 => repeat (first | exact (Kd.C_below HR0_5.out HB.out) | (with_reducible refine Kd.C_alloc ?_ _) | (with_reducible refine Kd.C_drewN ?_ _) | (with_reducible refine Kd.C_drew ?_)))
          (case side10 => exact HC0_5.out)
          (case side11 => exact (by (with_reducible repeat (first | refine bn_ ?_ _ | refine bd_ ?_ | refine ba_ ?_ _)); exact BK274.out))
          rintro e w74 ⟨rfl, hb⟩
          refine ⟨_, rfl, ?_⟩
          have n0_ := AZ.mk (bb_ (g := gb274) (o := .cells #[.int .i64 a0_0, .int .i64 a0_1, .slice A0_2 l0_2.length c0_2, .slice (some ad286) l0_3.length c0_3, .slice (some ad291) l0_4.length c0_4, .slice A0_5 l0_5.length c0_5] 36 (0, 0)) (by (with_reducible repeat (first | refine bn_ ?_ _ | refine bd_ ?_ | refine ba_ ?_ _)); exact BK274.out) hb)
          have n1_ := AZ.mk (bb_ (g := gb288) (o := .cells #[.int .i64 ((rd_T92 (rd_L9 l0_3 x50_2) x79_4).f0), .int .i64 ((rd_T92 (rd_L9 l0_3 x50_2) x79_4).f1)] 92 (0, 0)) (by (with_reducible repeat (first | refine bn_ ?_ _ | refine bd_ ?_ | refine ba_ ?_ _)); exact BK288.out) hb)
          have n2_ := AZ.mk (pT (by repeat (first | (with_reducible first | exact HB.out | apply pA | apply pN | apply pD | refine pS ?_ GE274.out | refine pS ?_ GE288.out) | exact HB.out)) hb)
          clear BK274
          clear BK288
          clear HB
          have BK274 := n0_
          have BK288 := n1_
          have HB := n2_
          clear n0_ n1_ n2_
          (try clear hb)
          (try clear hb2)
          (try clear hk)
          (try clear hi)
          refine hK.out _ _ ⟨(bc BK274.out 0).trans rfl, (bc BK274.out 1).trans rfl, (bc BK274.out 2).trans rfl, (bc BK274.out 3).trans rfl, (bc BK274.out 4).trans rfl, (bc BK274.out 5).trans rfl, (bc BK288.out 0).trans rfl, (bc BK288.out 1).trans rfl, ((HB.out.cell (World.block_lt_of_cell? w _ hw291_0)).trans hw291_0), ((HB.out.cell (World.block_lt_of_cell? w _ hw292_0)).trans hw292_0)⟩ (fun hHeld => ?_)
          clear hK K
          refine norm_ (a' := ?_) ?_ ?_
          rotate_left
          ·show Act.put _ (some 115) _ = _
           simp only [Act.put, sA, sB, sC, i64_w, i32_w]
           rfl
          iterate 2 (first | (refine pz_ HT_ impl_ValidChecker.cz3 rfl rfl rfl (v := ?_) (a' := ?_) (by kernel_rfl) (fun _ _ _ h => h) (Or.inl ⟨by rfl, ?_⟩) ?_ ?_; rotate_left; (intro w'; go_simp; with_reducible rfl); rotate_left; (simp only [Act.put, sA, sB, sC, i64_w, i32_w]; rfl)))
          refine done_ (done_of HT_.out (by kernel_rfl)) ?_
          try go_wp2
          go_ret
          exact ⟨by first | rfl | (simp [errW_none, errW_some] <;> rfl) | (simp [*, errW_none, errW_some] <;> rfl), by repeat (first | (with_reducible first | exact HB.out | apply pA | apply pN | apply pD | refine pS ?_ GE274.out | refine pS ?_ GE288.out) | exact HB.out)⟩
         subst c56
         have H1 : (impl_ValidChecker.l1 k4 x50_2 t275 x50_2 (wrap64 (x79_4 + 1)) a0_0 a0_1 l0_2 l0_3 l0_4 l0_5) = some r := by rw [if_pos rfl] at H; exact H
         clear H
         have H := H1
         clear H1
         have H' := AZ.mk H
         clear H
         obtain ⟨hcz57_0, hcz57_1, hcz57_2, hcz57_3, hcz57_4, hcz57_5⟩ := c6 BK274.out
         obtain ⟨hfz57_0, hfz57_1, hfz57_2, hfz57_3, hfz57_4, hfz57_5⟩ := f6 BK274.out
         have p286 : 0 ≤ (x50_2 : Int) := oT (by first | (with_reducible assumption) | assumption)
         have q286 : x50_2 < (l0_3.length : Int) := oT (by first | (with_reducible assumption) | assumption)
         obtain ⟨ad286, A286_0, c286_0, e286, hx286_0, hl286_0, hi286_0⟩ := at_L9 HR0_3.out x50_2 p286 q286
         cases e286
         replace hx286_0 := (HB.out.cell (World.block_lt_of_cell? w _ hx286_0)).trans hx286_0
         have HR286_0 := AZ.mk hi286_0
         have HC286_0 := AZ.mk hl286_0
         clear hi286_0 hl286_0
         replace p286 := eq_true p286
         replace q286 := eq_true q286
         have p287 : 0 ≤ (x79_4 : Int) := oT (by first | (with_reducible assumption) | assumption)
         have q287 : x79_4 < ((rd_L9 l0_3 x50_2).length : Int) := oT (by first | (with_reducible assumption) | assumption)
         obtain ⟨ad287, e287, hx287_0, hx287_1⟩ := at_T92 HR286_0.out x79_4 p287 q287
         cases e287
         replace hx287_0 := (HB.out.cell (World.block_lt_of_cell? w _ hx287_0)).trans hx287_0
         replace hx287_1 := (HB.out.cell (World.block_lt_of_cell? w _ hx287_1)).trans hx287_1
         replace p287 := eq_true p287
         replace q287 := eq_true q287
         try go_wp2_with (first | ((with_reducible refine gate_dst (N := 7) rfl ?_); (try (refine gate_guard (by rfl) ?_; dsimp only)); refine box_event ?hg (N := 7) ?hd (cs := #[.int .i64 0, .int .i64 0]) (t := 92) ?hr ?_; (case hd => rfl); (case hg => rfl); (case hr => first | (go_simp; done) | (go_simp; rfl)); intro gb288 hg w58 hbox hb; have n0_ := AZ.mk (bb_ (g := gb274) (o := .cells #[.int .i64 a0_0, .int .i64 a0_1, .slice A0_2 l0_2.length c0_2, .slice (some ad286) l0_3.length c0_3, .slice A0_4 l0_4.length c0_4, .slice A0_5 l0_5.length c0_5] 36 (0, 0)) (by (with_reducible repeat (first | refine bn_ ?_ _ | refine bd_ ?_ | refine ba_ ?_ _)); exact BK274.out) hb); have n1_ := AZ.mk (pT (by repeat (first | (with_reducible first | exact HB.out | apply pA | apply pN | apply pD | refine pS ?_ GE274.out) | exact HB.out)) hb); have n2_ := AZ.mk (hbox); have n3_ := AZ.mk ((by rw [hg]; exact (pZ (by repeat (first | (with_reducible first | exact HB.out | apply pA | apply pN | apply pD | refine pS ?_ GE274.out) | exact HB.out))) : w.heap.size ≤ gb288)); have n4_ := AZ.mk ((by rw [hg]; exact (pZ (by repeat (first | (with_reducible first | exact HB.out | apply pA | apply pN | apply pD | refine pS ?_ GE274.out) | exact HB.out))) : w.heap.size ≤ gb288)); have n5_ := AZ.mk ((by rw [hg]; exact Nat.ne_of_lt (blk_lt (g := gb274) (o := .cells #[.int .i64 a0_0, .int .i64 a0_1, .slice A0_2 l0_2.length c0_2, .slice (some ad286) l0_3.length c0_3, .slice A0_4 l0_4.length c0_4, .slice A0_5 l0_5.length c0_5] 36 (0, 0)) (by (with_reducible repeat (first | refine bn_ ?_ _ | refine bd_ ?_ | refine ba_ ?_ _)); exact BK274.out)) : gb274 ≠ gb288)); have n6_ := AZ.mk ((by rw [hg]; exact Nat.ne_of_gt (blk_lt (g := gb274) (o := .cells #[.int .i64 a0_0, .int .i64 a0_1, .slice A0_2 l0_2.length c0_2, .slice (some ad286) l0_3.length c0_3, .slice A0_4 l0_4.length c0_4, .slice A0_5 l0_5.length c0_5] 36 (0, 0)) (by (with_reducible repeat (first | refine bn_ ?_ _ | refine bd_ ?_ | refine ba_ ?_ _)); exact BK274.out)) : gb288 ≠ gb274)); clear BK274; clear HB; have BK274 := n0_; have HB := n1_; have BK288 := n2_; have GW288 := n3_; have GE288 := n4_; have NB274_288 := n5_; have NB288_274 := n6_; clear n0_ n1_ n2_ n3_ n4_ n5_ n6_; clear hb hbox hg; have hnb59 := NB288_274.out; have hnc59 := NB274_288.out; have hcz60_0 : w58.cell? ⟨gb288, 0, none⟩ = some (.int .i64 0) := (bc BK288.out 0).trans rfl; have hcz60_1 : w58.cell? ⟨gb288, 1, none⟩ = some (.int .i64 0) := (bc BK288.out 1).trans rfl; have hfz60_0 := bf BK288.out 0; have hfz60_1 := bf BK288.out 1))
         have n0_ : AZ (((w58.setCell ⟨gb288, 0, none⟩ (.int .i64 ((rd_T92 (rd_L9 l0_3 x50_2) x79_4).f0))).setCell ⟨gb288, 1, none⟩ (.int .i64 ((rd_T92 (rd_L9 l0_3 x50_2) x79_4).f1))).heap[gb274]? = some (.cells #[.int .i64 a0_0, .int .i64 a0_1, .slice A0_2 l0_2.length c0_2, .slice (some ad286) l0_3.length c0_3, .slice A0_4 l0_4.length c0_4, .slice A0_5 l0_5.length c0_5] 36 (0, 0))) := ⟨by (with_reducible repeat (first | refine bn_ ?_ _ | refine bd_ ?_ | refine ba_ ?_ _)); refine blk_far ?_ NB274_288.out _; (with_reducible repeat (first | refine bn_ ?_ _ | refine bd_ ?_ | refine ba_ ?_ _)); refine blk_far ?_ NB274_288.out _; (with_reducible repeat (first | refine bn_ ?_ _ | refine bd_ ?_ | refine ba_ ?_ _)); exact BK274.out⟩
         have n1_ : AZ (((w58.setCell ⟨gb288, 0, none⟩ (.int .i64 ((rd_T92 (rd_L9 l0_3 x50_2) x79_4).f0))).setCell ⟨gb288, 1, none⟩ (.int .i64 ((rd_T92 (rd_L9 l0_3 x50_2) x79_4).f1))).heap[gb288]? = some (.cells #[.int .i64 ((rd_T92 (rd_L9 l0_3 x50_2) x79_4).f0), .int .i64 ((rd_T92 (rd_L9 l0_3 x50_2) x79_4).f1)] 92 (0, 0))) := ⟨by (with_reducible repeat (first | refine bn_ ?_ _ | refine bd_ ?_ | refine ba_ ?_ _)); refine blk_put (cs := #[.int .i64 ((rd_T92 (rd_L9 l0_3 x50_2) x79_4).f0), .int .i64 0]) ?_ 1 _ rfl; (with_reducible repeat (first | refine bn_ ?_ _ | refine bd_ ?_ | refine ba_ ?_ _)); refine blk_put (cs := #[.int .i64 0, .int .i64 0]) ?_ 0 _ rfl; (with_reducible repeat (first | refine bn_ ?_ _ | refine bd_ ?_ | refine ba_ ?_ _)); exact BK288.out⟩
         have n2_ : AZ (Below w.heap.size w ((w58.setCell ⟨gb288, 0, none⟩ (.int .i64 ((rd_T92 (rd_L9 l0_3 x50_2) x79_4).f0))).setCell ⟨gb288, 1, none⟩ (.int .i64 ((rd_T92 (rd_L9 l0_3 x50_2) x79_4).f1)))) := ⟨by repeat (first | (with_reducible first | exact HB.out | apply pA | apply pN | apply pD | refine pS ?_ GE274.out | refine pS ?_ GE288.out) | exact HB.out)⟩
         (try clear BK274)
         (try clear BK288)
         (try clear HB)
         generalize ((w58.setCell ⟨gb288, 0, none⟩ (.int .i64 ((rd_T92 (rd_L9 l0_3 x50_2) x79_4).f0))).setCell ⟨gb288, 1, none⟩ (.int .i64 ((rd_T92 (rd_L9 l0_3 x50_2) x79_4).f1))) = w61 at n0_ n1_ n2_ ⊢
         have BK274 := n0_
         have BK288 := n1_
         have HB := n2_
         clear n0_ n1_ n2_
         have n0_ := AZ.mk (bd_ BK274.out)
         have n1_ := AZ.mk (bd_ BK288.out)
         have n2_ := AZ.mk (pD HB.out)
         clear BK274
         clear BK288
         clear HB
         have BK274 := n0_
         have BK288 := n1_
         have HB := n2_
         clear n0_ n1_ n2_
         have p291 : 0 ≤ (x50_2 : Int) := oT (by first | (with_reducible assumption) | assumption)
         have q291 : x50_2 < (l0_4.length : Int) := oT (by first | (with_reducible assumption) | assumption)
         obtain ⟨ad291, A291_0, c291_0, e291, hx291_0, hl291_0, hi291_0⟩ := at_L7 HR0_4.out x50_2 p291 q291
         have hw291_0 := hx291_0
         cases e291
         replace hx291_0 := (HB.out.cell (World.block_lt_of_cell? w _ hx291_0)).trans hx291_0
         have HR291_0 := AZ.mk hi291_0
         have HC291_0 := AZ.mk hl291_0
         clear hi291_0 hl291_0
         replace p291 := eq_true p291
         replace q291 := eq_true q291
         have p292 : 0 ≤ (x79_4 : Int) := oT (by first | (with_reducible assumption) | assumption)
         have q292 : x79_4 < ((rd_L7 l0_4 x50_2).length : Int) := oT (by first | (with_reducible assumption) | assumption)
         obtain ⟨ad292, A292_0, c292_0, e292, hx292_0, hl292_0, hi292_0⟩ := at_L6 HR291_0.out x79_4 p292 q292
         have hw292_0 := hx292_0
         cases e292
         replace hx292_0 := (HB.out.cell (World.block_lt_of_cell? w _ hx292_0)).trans hx292_0
         have HR292_0 := AZ.mk hi292_0
         have HC292_0 := AZ.mk hl292_0
         clear hi292_0 hl292_0
         replace p292 := eq_true p292
         replace q292 := eq_true q292
         refine start_ (n := 28) (S := fun w' => w'.cell? ⟨gb274, 0, none⟩ = some (.int .i64 a0_0) ∧ w'.cell? ⟨gb274, 1, none⟩ = some (.int .i64 a0_1) ∧ w'.cell? ⟨gb274, 2, none⟩ = some (.slice A0_2 l0_2.length c0_2) ∧ w'.cell? ⟨gb274, 3, none⟩ = some (.slice (some ad286) l0_3.length c0_3) ∧ w'.cell? ⟨gb274, 4, none⟩ = some (.slice (some ad291) l0_4.length c0_4) ∧ w'.cell? ⟨gb274, 5, none⟩ = some (.slice A0_5 l0_5.length c0_5) ∧ w'.cell? ⟨gb288, 0, none⟩ = some (.int .i64 ((rd_T92 (rd_L9 l0_3 x50_2) x79_4).f0)) ∧ w'.cell? ⟨gb288, 1, none⟩ = some (.int .i64 ((rd_T92 (rd_L9 l0_3 x50_2) x79_4).f1)) ∧ w'.cell? (ad291.add (x50_2).toNat) = some (.slice (some ad292) (rd_L7 l0_4 x50_2).length c291_0) ∧ w'.cell? (ad292.add (x79_4).toNat) = some (.slice A292_0 (rd_L6 (rd_L7 l0_4 x50_2) x79_4).length c292_0)) (ds := []) (bz 28 0) (by kernel_rfl) rfl rfl ⟨(bc BK274.out 0).trans rfl, (bc BK274.out 1).trans rfl, (bc BK274.out 2).trans rfl, (bc BK274.out 3).trans rfl, (bc BK274.out 4).trans rfl, (bc BK274.out 5).trans rfl, (bc BK288.out 0).trans rfl, (bc BK288.out 1).trans rfl, ((HB.out.cell (World.block_lt_of_cell? w _ hw291_0)).trans hw291_0), ((HB.out.cell (World.block_lt_of_cell? w _ hw292_0)).trans hw292_0)⟩ (fun hHeld => ?_); refine with_tabW impl_ValidChecker.tab14 impl_ValidChecker.bits14 (fun HT_ HW_ => ?_)
         generalize w61.drew = w62 at BK274 BK288 HB HR291_0 HR292_0 hx291_0 hx292_0 hHeld ⊢
         iterate 3 (first | (refine pz_ HT_ impl_ValidChecker.cz0 rfl rfl rfl (v := ?_) (a' := ?_) (by kernel_rfl) (fun _ _ _ h => h) (Or.inl ⟨by rfl, ?_⟩) ?_ ?_; rotate_left; (intro w'; go_simp; with_reducible rfl); rotate_left; (simp only [Act.put, sA, sB, sC, i64_w, i32_w]; rfl)) | (refine tz_ HT_ HW_ impl_ValidChecker.cz0 rfl rfl rfl (v := ?_) (a' := ?_) (by kernel_rfl) (fun _ _ _ h => h) (Or.inl ⟨by rfl, ?_⟩) hHeld ?_ ?_; rotate_left; (rintro w' ⟨s0, s1, s2, s3, s4, s5, s6, s7, s8, s9⟩; go_simp; with_reducible rfl); rotate_left; (simp only [Act.put, sA, sB, sC, i64_w, i32_w]; rfl)))
         refine one_ (i := 3) (N := some 93) (bz 28 15) rfl rfl (one_of HT_.out (by kernel_rfl)) (by decide) (fun K hK => ?_)
         refine goes_ Try.func49 (by kernel_rfl) rfl #[.agg #[.int .i64 a0_0, .int .i64 a0_1, .slice A0_2 l0_2.length c0_2, .slice (some ad286) l0_3.length c0_3, .slice (some ad291) l0_4.length c0_4, .slice A0_5 l0_5.length c0_5], .int .i64 ((rd_T92 (rd_L9 l0_3 x50_2) x79_4).f0)] (by rfl) rfl rfl (by (try simp only [List.map_toArray, List.map_cons, List.map_nil]); first | done | rfl | (simp only [List.length_drop, List.length_take]; rfl)) ?_
         with_reducible refine (impl_Checker_isState.calls a0_0 a0_1 _ _ l0_2 _ _ l0_3 _ _ l0_4 _ _ l0_5 ((rd_T92 (rd_L9 l0_3 x50_2) x79_4).f0) true _ ?side1 ?side2 ?side3 ?side4 ?side5 ?side6 ?side7 ?side8 A49.out).mono ?_
         (case side1 => repeat (first | exact (Kd.C_below HR0_2.out HB.out) | (with_reducible refine Kd.C_alloc ?_ _) | (with_reducible refine Kd.C_drewN ?_ _) | (with_reducible refine Kd.C_drew ?_)))
         (case side2 => exact HC0_2.out)
         (case side3 => repeat (first | exact (Kd.C_below HR0_3.out HB.out) | (with_reducible refine Kd.C_alloc ?_ _) | (with_reducible refine Kd.C_drewN ?_ _) | (with_reducible refine Kd.C_drew ?_)))
         (case side4 => exact HC0_3.out)
         (case side5 => repeat (first | exact (Kd.C_below HR0_4.out HB.out) | (with_reducible refine Kd.C_alloc ?_ _) | (with_reducible refine Kd.C_drewN ?_ _) | (with_reducible refine Kd.C_drew ?_)))
         (case side6 => exact HC0_4.out)
         (case side7 => repeat (first | exact (Kd.C_below HR0_5.out HB.out) | (with_reducible refine Kd.C_alloc ?_ _) | (with_reducible refine Kd.C_drewN ?_ _) | (with_reducible refine Kd.C_drew ?_)))
         (case side8 => exact HC0_5.out)
         rintro e w63 ⟨rfl, hb⟩
         refine ⟨_, rfl, ?_⟩
         have n0_ := AZ.mk (bb_ (g := gb274) (o := .cells #[.int .i64 a0_0, .int .i64 a0_1, .slice A0_2 l0_2.length c0_2, .slice (some ad286) l0_3.length c0_3, .slice (some ad291) l0_4.length c0_4, .slice A0_5 l0_5.length c0_5] 36 (0, 0)) (by (with_reducible repeat (first | refine bn_ ?_ _ | refine bd_ ?_ | refine ba_ ?_ _)); exact BK274.out) hb)
         have n1_ := AZ.mk (bb_ (g := gb288) (o := .cells #[.int .i64 ((rd_T92 (rd_L9 l0_3 x50_2) x79_4).f0), .int .i64 ((rd_T92 (rd_L9 l0_3 x50_2) x79_4).f1)] 92 (0, 0)) (by (with_reducible repeat (first | refine bn_ ?_ _ | refine bd_ ?_ | refine ba_ ?_ _)); exact BK288.out) hb)
         have n2_ := AZ.mk (pT (by repeat (first | (with_reducible first | exact HB.out | apply pA | apply pN | apply pD | refine pS ?_ GE274.out | refine pS ?_ GE288.out) | exact HB.out)) hb)
         clear BK274
         clear BK288
         clear HB
         have BK274 := n0_
         have BK288 := n1_
         have HB := n2_
         clear n0_ n1_ n2_
         (try clear hb)
         (try clear hb2)
         (try clear hk)
         (try clear hi)
         refine hK.out _ _ ⟨(bc BK274.out 0).trans rfl, (bc BK274.out 1).trans rfl, (bc BK274.out 2).trans rfl, (bc BK274.out 3).trans rfl, (bc BK274.out 4).trans rfl, (bc BK274.out 5).trans rfl, (bc BK288.out 0).trans rfl, (bc BK288.out 1).trans rfl, ((HB.out.cell (World.block_lt_of_cell? w _ hw291_0)).trans hw291_0), ((HB.out.cell (World.block_lt_of_cell? w _ hw292_0)).trans hw292_0)⟩ (fun hHeld => ?_)
         clear hK K
         refine norm_ (a' := ?_) ?_ ?_
         rotate_left
         ·show Act.put _ (some 93) _ = _
          simp only [Act.put, sA, sB, sC, i64_w, i32_w]
          rfl
         iterate 5 (first | (refine pz_ HT_ impl_ValidChecker.cz1 rfl rfl rfl (v := ?_) (a' := ?_) (by kernel_rfl) (fun _ _ _ h => h) (Or.inl ⟨by rfl, ?_⟩) ?_ ?_; rotate_left; (intro w'; go_simp; with_reducible rfl); rotate_left; (simp only [Act.put, sA, sB, sC, i64_w, i32_w]; rfl)) | (refine tz_ HT_ HW_ impl_ValidChecker.cz1 rfl rfl rfl (v := ?_) (a' := ?_) (by kernel_rfl) (fun _ _ _ h => h) (Or.inl ⟨by rfl, ?_⟩) hHeld ?_ ?_; rotate_left; (rintro w' ⟨s0, s1, s2, s3, s4, s5, s6, s7, s8, s9⟩; go_simp; with_reducible rfl); rotate_left; (simp only [Act.put, sA, sB, sC, i64_w, i32_w]; rfl)))
         refine one_ (i := 9) (N := some 99) (bz 28 1023) rfl rfl (one_of HT_.out (by kernel_rfl)) (by decide) (fun K hK => ?_)
         refine goes_ Try.func57 (by kernel_rfl) rfl #[.agg #[.int .i64 a0_0, .int .i64 a0_1, .slice A0_2 l0_2.length c0_2, .slice (some ad286) l0_3.length c0_3, .slice (some ad291) l0_4.length c0_4, .slice A0_5 l0_5.length c0_5], .int .i64 ((rd_T92 (rd_L9 l0_3 x50_2) x79_4).f1)] (by rfl) rfl rfl (by (try simp only [List.map_toArray, List.map_cons, List.map_nil]); first | done | rfl | (simp only [List.length_drop, List.length_take]; rfl)) ?_
         with_reducible refine (impl_Checker_isMark.calls a0_0 a0_1 _ _ l0_2 _ _ l0_3 _ _ l0_4 _ _ l0_5 ((rd_T92 (rd_L9 l0_3 x50_2) x79_4).f1) true _ ?side1 ?side2 ?side3 ?side4 ?side5 ?side6 ?side7 ?side8 A51.out).mono ?_
         (case side1 => repeat (first | exact (Kd.C_below HR0_2.out HB.out) | (with_reducible refine Kd.C_alloc ?_ _) | (with_reducible refine Kd.C_drewN ?_ _) | (with_reducible refine Kd.C_drew ?_)))
         (case side2 => exact HC0_2.out)
         (case side3 => repeat (first | exact (Kd.C_below HR0_3.out HB.out) | (with_reducible refine Kd.C_alloc ?_ _) | (with_reducible refine Kd.C_drewN ?_ _) | (with_reducible refine Kd.C_drew ?_)))
         (case side4 => exact HC0_3.out)
         (case side5 => repeat (first | exact (Kd.C_below HR0_4.out HB.out) | (with_reducible refine Kd.C_alloc ?_ _) | (with_reducible refine Kd.C_drewN ?_ _) | (with_reducible refine Kd.C_drew ?_)))
         (case side6 => exact HC0_4.out)
         (case side7 => repeat (first | exact (Kd.C_below HR0_5.out HB.out) | (with_reducible refine Kd.C_alloc ?_ _) | (with_reducible refine Kd.C_drewN ?_ _) | (with_reducible refine Kd.C_drew ?_)))
         (case side8 => exact HC0_5.out)
         rintro e w64 ⟨rfl, hb⟩
         refine ⟨_, rfl, ?_⟩
         have n0_ := AZ.mk (bb_ (g := gb274) (o := .cells #[.int .i64 a0_0, .int .i64 a0_1, .slice A0_2 l0_2.length c0_2, .slice (some ad286) l0_3.length c0_3, .slice (some ad291) l0_4.length c0_4, .slice A0_5 l0_5.length c0_5] 36 (0, 0)) (by (with_reducible repeat (first | refine bn_ ?_ _ | refine bd_ ?_ | refine ba_ ?_ _)); exact BK274.out) hb)
         have n1_ := AZ.mk (bb_ (g := gb288) (o := .cells #[.int .i64 ((rd_T92 (rd_L9 l0_3 x50_2) x79_4).f0), .int .i64 ((rd_T92 (rd_L9 l0_3 x50_2) x79_4).f1)] 92 (0, 0)) (by (with_reducible repeat (first | refine bn_ ?_ _ | refine bd_ ?_ | refine ba_ ?_ _)); exact BK288.out) hb)
         have n2_ := AZ.mk (pT (by repeat (first | (with_reducible first | exact HB.out | apply pA | apply pN | apply pD | refine pS ?_ GE274.out | refine pS ?_ GE288.out) | exact HB.out)) hb)
         clear BK274
         clear BK288
         clear HB
         have BK274 := n0_
         have BK288 := n1_
         have HB := n2_
         clear n0_ n1_ n2_
         (try clear hb)
         (try clear hb2)
         (try clear hk)
         (try clear hi)
         refine hK.out _ _ ⟨(bc BK274.out 0).trans rfl, (bc BK274.out 1).trans rfl, (bc BK274.out 2).trans rfl, (bc BK274.out 3).trans rfl, (bc BK274.out 4).trans rfl, (bc BK274.out 5).trans rfl, (bc BK288.out 0).trans rfl, (bc BK288.out 1).trans rfl, ((HB.out.cell (World.block_lt_of_cell? w _ hw291_0)).trans hw291_0), ((HB.out.cell (World.block_lt_of_cell? w _ hw292_0)).trans hw292_0)⟩ (fun hHeld => ?_)
         clear hK K
         refine norm_ (a' := ?_) ?_ ?_
         rotate_left
         ·show Act.put _ (some 99) _ = _
          simp only [Act.put, sA, sB, sC, i64_w, i32_w]
          rfl
         iterate 15 (first | (refine pz_ HT_ impl_ValidChecker.cz2 rfl rfl rfl (v := ?_) (a' := ?_) (by kernel_rfl) (fun _ _ _ h => h) (Or.inl ⟨by rfl, ?_⟩) ?_ ?_; rotate_left; (intro w'; go_simp; with_reducible rfl); rotate_left; (simp only [Act.put, sA, sB, sC, i64_w, i32_w]; rfl)) | (refine tz_ HT_ HW_ impl_ValidChecker.cz2 rfl rfl rfl (v := ?_) (a' := ?_) (by kernel_rfl) (fun _ _ _ h => h) (Or.inl ⟨by rfl, ?_⟩) hHeld ?_ ?_; rotate_left; (rintro w' ⟨s0, s1, s2, s3, s4, s5, s6, s7, s8, s9⟩; go_simp; with_reducible rfl); rotate_left; (simp only [Act.put, sA, sB, sC, i64_w, i32_w]; rfl)))
         refine one_ (i := 25) (N := some 115) (bz 28 67108863) rfl rfl (one_of HT_.out (by kernel_rfl)) (by decide) (fun K hK => ?_)
         refine goesV_ Try.func53 (by kernel_rfl) rfl #[.slice A292_0 (rd_L6 (rd_L7 l0_4 x50_2) x79_4).length c292_0, .int .i64 (wrap64 (a0_0 + 1))] #[.slice A292_0 (rd_L6 (rd_L7 l0_4 x50_2) x79_4).length c292_0, .int .i64 (wrap64 (a0_0 + 1)), .pointer (some ⟨gb274, 0, none⟩)] (by rfl) rfl rfl (by rfl) (by (try simp only [List.map_toArray, List.map_cons, List.map_nil]); first | done | rfl | (simp only [List.length_drop, List.length_take]; rfl)) (by rfl) ?_
         with_reducible refine (impl_ValidChecker_1_c.calls k4 _ _ (rd_L6 (rd_L7 l0_4 x50_2) x79_4) (wrap64 (a0_0 + 1)) gb274 a0_0 a0_1 A0_2 c0_2 l0_2 (some ad286) c0_3 l0_3 (some ad291) c0_4 l0_4 A0_5 c0_5 l0_5 true _ ?side1 ?side2 ?side3 ?side4 ?side5 ?side6 ?side7 ?side8 ?side9 ?side10 ?side11 A55.out).mono ?_
         (case side1 => repeat (first | exact (Kd.C_below HR292_0.out HB.out) | (with_reducible refine Kd.C_alloc ?_ _) | (with_reducible refine Kd.C_drewN ?_ _) | (with_reducible refine Kd.C_drew ?_)))
         (case side2 => exact HC292_0.out)
         (case side3 => repeat (first | exact (Kd.C_below HR0_2.out HB.out) | (with_reducible refine Kd.C_alloc ?_ _) | (with_reducible refine Kd.C_drewN ?_ _) | (with_reducible refine Kd.C_drew ?_)))
         (case side4 => exact HC0_2.out)
         (case side5 => repeat (first | exact (Kd.C_below HR0_3.out HB.out) | (with_reducible refine Kd.C_alloc ?_ _) | (with_reducible refine Kd.C_drewN ?_ _) | (with_reducible refine Kd.C_drew ?_)))
         (case side6 => exact HC0_3.out)
         (case side7 => repeat (first | exact (Kd.C_below HR0_4.out HB.out) | (with_reducible refine Kd.C_alloc ?_ _) | (with_reducible refine Kd.C_drewN ?_ _) | (with_reducible refine Kd.C_drew ?_)))
         (case side8 => exact HC0_4.out)
         (case side9 => repeat (first | exact (Kd.C_below HR0_5.out HB.out) | (with_reducible refine Kd.C_alloc ?_ _) | (with_reducible refine Kd.C_drewN ?_ _) | (with_reducible refine Kd.C_drew ?_)))
         (case side10 => exact HC0_5.out)
         (case side11 => exact (by (with_reducible repeat (first | refine bn_ ?_ _ | refine bd_ ?_ | refine ba_ ?_ _)); exact BK274.out))
         rintro e w65 ⟨rfl, hb⟩
         refine ⟨_, rfl, ?_⟩
         have n0_ := AZ.mk (bb_ (g := gb274) (o := .cells #[.int .i64 a0_0, .int .i64 a0_1, .slice A0_2 l0_2.length c0_2, .slice (some ad286) l0_3.length c0_3, .slice (some ad291) l0_4.length c0_4, .slice A0_5 l0_5.length c0_5] 36 (0, 0)) (by (with_reducible repeat (first | refine bn_ ?_ _ | refine bd_ ?_ | refine ba_ ?_ _)); exact BK274.out) hb)
         have n1_ := AZ.mk (bb_ (g := gb288) (o := .cells #[.int .i64 ((rd_T92 (rd_L9 l0_3 x50_2) x79_4).f0), .int .i64 ((rd_T92 (rd_L9 l0_3 x50_2) x79_4).f1)] 92 (0, 0)) (by (with_reducible repeat (first | refine bn_ ?_ _ | refine bd_ ?_ | refine ba_ ?_ _)); exact BK288.out) hb)
         have n2_ := AZ.mk (pT (by repeat (first | (with_reducible first | exact HB.out | apply pA | apply pN | apply pD | refine pS ?_ GE274.out | refine pS ?_ GE288.out) | exact HB.out)) hb)
         clear BK274
         clear BK288
         clear HB
         have BK274 := n0_
         have BK288 := n1_
         have HB := n2_
         clear n0_ n1_ n2_
         (try clear hb)
         (try clear hb2)
         (try clear hk)
         (try clear hi)
         refine hK.out _ _ ⟨(bc BK274.out 0).trans rfl, (bc BK274.out 1).trans rfl, (bc BK274.out 2).trans rfl, (bc BK274.out 3).trans rfl, (bc BK274.out 4).trans rfl, (bc BK274.out 5).trans rfl, (bc BK288.out 0).trans rfl, (bc BK288.out 1).trans rfl, ((HB.out.cell (World.block_lt_of_cell? w _ hw291_0)).trans hw291_0), ((HB.out.cell (World.block_lt_of_cell? w _ hw292_0)).trans hw292_0)⟩ (fun hHeld => ?_)
         clear hK K
         refine norm_ (a' := ?_) ?_ ?_
         rotate_left
         ·show Act.put _ (some 115) _ = _
          simp only [Act.put, sA, sB, sC, i64_w, i32_w]
          rfl
         iterate 2 (first | (refine pz_ HT_ impl_ValidChecker.cz3 rfl rfl rfl (v := ?_) (a' := ?_) (by kernel_rfl) (fun _ _ _ h => h) (Or.inl ⟨by rfl, ?_⟩) ?_ ?_; rotate_left; (intro w'; go_simp; with_reducible rfl); rotate_left; (simp only [Act.put, sA, sB, sC, i64_w, i32_w]; rfl)))
         refine done_ (done_of HT_.out (by kernel_rfl)) ?_
         try go_wp2
         go_roundg k4
         case measure => have := HJ2.out; have := HK2.out; have := HJ30.out; have := HK4.out; omega
         case rel => exact ⟨(wrap64 (x79_4 + 1)), (by first | rfl | (simp; done) | (simp [*]; done)), H', ⟨by have := HJ2.out; have := HK2.out; have := HJ30.out; have := HK4.out; omega⟩, ⟨by (with_reducible repeat (first | refine bn_ ?_ _ | refine bd_ ?_ | refine ba_ ?_ _)); exact BK274.out⟩, ⟨by repeat (first | (with_reducible first | exact HB.out | apply pA | apply pN | apply pD | refine pS ?_ GE274.out | refine pS ?_ GE288.out) | exact HB.out)⟩⟩
end Go.Proofs.Ytlmkkmoammgjdaa.P
namespace Go.Proofs.Ytlmkkmoammgjdaa.P
open Go.RowKit Go.Proofs.YtlmkkmoammgjdaaW.PrintWords Go.Proofs.YtlmkkmoammgjdaaW.PrintLast Go.Proofs.YtlmkkmoammgjdaaW.PrintMore
set_option linter.unusedVariables false
set_option linter.unusedSimpArgs false
def inK (n x : Int) : Bool := decide (0 ≤ x ∧ x ≤ n - 1)
def lstK (n len : Int) (l : List Int) : Bool := decide ((l.length : Int) = len) && (List.range l.length).all (fun i => inK n (l.getD i 0))
def rowK (a b : Int) (l2 : List Bool) (l3 : List (List S92)) (l4 : List (List (List Int))) (l5 : List (List Int)) (i q : Nat) : Bool := inK (l2.length : Int) ((l3.getD i []).getD q z92).f0 && (inK a ((l3.getD i []).getD q z92).f1 && lstK (l2.length : Int) (a + 1) ((l4.getD i []).getD q []))
def stK (a b : Int) (l2 : List Bool) (l3 : List (List S92)) (l4 : List (List (List Int))) (l5 : List (List Int)) (i : Nat) : Bool := decide ((l3.getD i []).length = 2) && (decide ((l4.getD i []).length = 2) && (lstK (l2.length : Int) 2 (l5.getD i []) && (rowK a b l2 l3 l4 l5 i 0 && rowK a b l2 l3 l4 l5 i 1)))
def okK (a b : Int) (l2 : List Bool) (l3 : List (List S92)) (l4 : List (List (List Int))) (l5 : List (List Int)) : Bool := decide (1 ≤ (l2.length : Int) ∧ (l2.length : Int) ≤ 40) && (decide (1 ≤ a ∧ a ≤ 80) && (inK (l2.length : Int) b && (decide (l3.length = l2.length) && (decide (l4.length = l2.length) && (decide (l5.length = l2.length) && (List.range l2.length).all (stK a b l2 l3 l4 l5))))))
theorem lstK_parts {n len : Int} {l : List Int} (h : lstK n len l = true) : (l.length : Int) = len ∧ ∀ z, z < l.length → 0 ≤ l.getD z 0 ∧ l.getD z 0 ≤ n - 1 := by
 unfold lstK at h
 rw [Bool.and_eq_true, decide_eq_true_eq, List.all_eq_true] at h
 exact ⟨h.1, fun z hz => oT (h.2 z (List.mem_range.2 hz))⟩
theorem okK_parts {a b : Int} {l2 : List Bool} {l3 : List (List S92)} {l4 : List (List (List Int))} {l5 : List (List Int)} (h : okK a b l2 l3 l4 l5 = true) : (1 ≤ (l2.length : Int) ∧ (l2.length : Int) ≤ 40) ∧ (1 ≤ a ∧ a ≤ 80) ∧ (0 ≤ b ∧ b ≤ (l2.length : Int) - 1) ∧ l3.length = l2.length ∧ l4.length = l2.length ∧ l5.length = l2.length ∧ ∀ i, i < l2.length → stK a b l2 l3 l4 l5 i = true := by
 unfold okK inK at h
 simp only [Bool.and_eq_true, decide_eq_true_eq, List.all_eq_true, List.mem_range] at h
 exact h
theorem stK_parts {a b : Int} {l2 : List Bool} {l3 : List (List S92)} {l4 : List (List (List Int))} {l5 : List (List Int)} {i : Nat} (h : stK a b l2 l3 l4 l5 i = true) (q : Nat) (hq : q < 2) : ((l3.getD i []).length = 2 ∧ (l4.getD i []).length = 2 ∧ (l5.getD i []).length = 2) ∧ (0 ≤ ((l3.getD i []).getD q z92).f0 ∧ ((l3.getD i []).getD q z92).f0 ≤ (l2.length : Int) - 1) ∧ (0 ≤ ((l3.getD i []).getD q z92).f1 ∧ ((l3.getD i []).getD q z92).f1 ≤ a - 1) ∧ ((((l4.getD i []).getD q []).length : Int) = a + 1 ∧ ∀ z, z < ((l4.getD i []).getD q []).length → 0 ≤ ((l4.getD i []).getD q []).getD z 0 ∧ ((l4.getD i []).getD q []).getD z 0 ≤ (l2.length : Int) - 1) ∧ (0 ≤ (l5.getD i []).getD q 0 ∧ (l5.getD i []).getD q 0 ≤ (l2.length : Int) - 1) := by
 unfold stK at h
 simp only [Bool.and_eq_true, decide_eq_true_eq] at h
 obtain ⟨h3, h4, h5, r0, r1⟩ := h
 have H5 := lstK_parts h5
 have L5 : (l5.getD i []).length = 2 := by have := H5.1; omega
 have hr : rowK a b l2 l3 l4 l5 i q = true := by
  have : q = 0 ∨ q = 1 := by omega
  rcases this with rfl | rfl
  ·exact r0
  ·exact r1
 unfold rowK inK at hr
 simp only [Bool.and_eq_true, decide_eq_true_eq] at hr
 exact ⟨⟨h3, h4, L5⟩, hr.1, hr.2.1, lstK_parts hr.2.2, H5.2 q (by omega)⟩
theorem ck_ofK {a b : Int} {l2 : List Bool} {l3 : List (List S92)} {l4 : List (List (List Int))} {l5 : List (List Int)} (h : okK a b l2 l3 l4 l5 = true) : Ck a l2 l3 l4 l5 := by
 obtain ⟨h1, h2, h3, h4, h5, h6, hs⟩ := okK_parts h
 have e9 : ∀ s : Nat, rd_L9 l3 (s : Int) = l3.getD s [] := fun s => rfl
 have e7 : ∀ s : Nat, rd_L7 l4 (s : Int) = l4.getD s [] := fun s => rfl
 have e6 : ∀ (l : List (List Int)) (s : Nat), rd_L6 l (s : Int) = l.getD s [] := fun l s => rfl
 have eT : ∀ (l : List S92) (s : Nat), rd_T92 l (s : Int) = l.getD s z92 := fun l s => rfl
 have er : ∀ (l : List Int) (s : Nat), rd l (s : Int) = l.getD s 0 := fun l s => rfl
 have nat : ∀ x : Int, 0 ≤ x ∧ x ≤ (l2.length : Int) - 1 → ∃ t : Nat, x = (t : Int) ∧ t < l2.length := fun x hx => ⟨x.toNat, by omega, by omega⟩
 refine ⟨h2, h4, h5, h6, fun s hl => ?_, fun s hl => ?_, fun s hl => ?_, fun s q hl hq => ?_, fun s q hl hq => ?_, fun s q z hl hq hz => ?_, fun s q hl hq => ?_⟩
 ·rw [e9]; exact (stK_parts (hs s hl) 0 (by omega)).1.1
 ·rw [e7]; exact (stK_parts (hs s hl) 0 (by omega)).1.2.1
 ·rw [e6]; exact (stK_parts (hs s hl) 0 (by omega)).1.2.2
 ·rw [e7, e6]; exact (stK_parts (hs s hl) q hq).2.2.2.1.1
 ·rw [e9, eT]
  obtain ⟨-, hA, hB, -, -⟩ := stK_parts (hs s hl) q hq
  exact ⟨nat _ hA, hB.1, by omega⟩
 ·rw [e7, e6, er]
  obtain ⟨-, -, -, hC, -⟩ := stK_parts (hs s hl) q hq
  exact nat _ (hC.2 z (by have := hC.1; omega))
 ·rw [e6, er]
  exact nat _ (stK_parts (hs s hl) q hq).2.2.2.2
def impl_CountTaken.f (k : Nat) (a0_0 : Int) (a0_1 : Int) (l0_2 : List Bool) (l0_3 : List (List (S92))) (l0_4 : List (List (List Int))) (l0_5 : List (List Int)) (a1 : Int) : Option (Int × Int) :=
 (impl_ValidChecker.f k a0_0 a0_1 l0_2 l0_3 l0_4 l0_5).bind fun v => if v = true then (if 0 ≤ a1 ∧ a1 ≤ 5 then (if okK a0_0 a0_1 l0_2 l0_3 l0_4 l0_5 = true then some (((cnt a0_0 l0_2 l0_3 l0_4 l0_5 a1.toNat a0_1.toNat [] : Nat) : Int), 0) else none) else some (0, 2)) else some (0, 1)
set_option maxHeartbeats 8000000 in
set_option maxRecDepth 100000 in
theorem impl_CountTaken.walk (k : Nat) (a0 a1 : Int) (A2 : Option Addr) (c2 : Nat) (l2 : List Bool) (A3 : Option Addr) (c3 : Nat) (l3 : List (List S92)) (A4 : Option Addr) (c4 : Nat) (l4 : List (List (List Int))) (A5 : Option Addr) (c5 : Nat) (l5 : List (List Int)) (x : Int) (r1 r2 : Int) (w : World) (hr0_2 : Kd.C Kd.bool w A2 l2.length l2) (hc0_2 : l2.length ≤ c2) (hr0_3 : Kd.C (Kd.slice 92 k92) w A3 l3.length l3) (hc0_3 : l3.length ≤ c3) (hr0_4 : Kd.C (Kd.slice 60 (Kd.slice 2 (Kd.int .i64))) w A4 l4.length l4) (hc0_4 : l4.length ≤ c4) (hr0_5 : Kd.C (Kd.slice 2 (Kd.int .i64)) w A5 l5.length l5) (hc0_5 : l5.length ≤ c5) (h : impl_CountTaken.f k a0 a1 l2 l3 l4 l5 x = some (r1, r2)) :
  Calls Try.prog 10 #[.agg #[.int .i64 a0, .int .i64 a1, .slice A2 l2.length c2, .slice A3 l3.length c3, .slice A4 l4.length c4, .slice A5 l5.length c5], .int .i64 x] w fun e w' => e = .returned (.tuple #[.int .i64 r1, .int .i64 r2]) ∧ Below w.heap.size w w' := by
 have hu36 := Try.underlying36
 have HR2 := AZ.mk hr0_2
 have HC2 := AZ.mk hc0_2
 have HR3 := AZ.mk hr0_3
 have HC3 := AZ.mk hc0_3
 have HR4 := AZ.mk hr0_4
 have HC4 := AZ.mk hc0_4
 have HR5 := AZ.mk hr0_5
 have HC5 := AZ.mk hc0_5
 have HB := AZ.mk (Below.refl w.heap.size w)
 clear hr0_2 hc0_2 hr0_3 hc0_3 hr0_4 hc0_4 hr0_5 hc0_5
 unfold impl_CountTaken.f at h
 obtain ⟨v, hv, h⟩ := Option.bind_eq_some_iff.1 h
 have HV := AZ.mk hv
 clear hv
 cases v with
 | false =>
  rw [if_neg (by decide)] at h
  simp only [Option.some.injEq, Prod.mk.injEq] at h
  obtain ⟨rfl, rfl⟩ := h
  go_enter Try.func10, Try.ntmps10
  go_wp2_with (first | ((with_reducible refine gate_dst (N := 2) rfl ?_); refine box_event ?hg (N := 2) ?hd (cs := #[.int .i64 a0, .int .i64 a1, .slice A2 l2.length c2, .slice A3 l3.length c3, .slice A4 l4.length c4, .slice A5 l5.length c5]) (t := 36) ?hr ?_; (case hd => rfl); (case hg => rfl); (case hr => first | (go_simp; done) | (go_simp; rfl)); intro gC hg WgC hbx hb; have BC := AZ.mk hbx; have n0_ := AZ.mk (pT HB.out hb); clear HB; have HB := n0_; clear n0_; clear hb hbx hg; have hz0 := (bc BC.out 0).trans rfl; have hz1 := (bc BC.out 1).trans rfl; have hz2 := (bc BC.out 2).trans rfl; have hz3 := (bc BC.out 3).trans rfl; have hz4 := (bc BC.out 4).trans rfl; have hz5 := (bc BC.out 5).trans rfl) | ((with_reducible refine gate_callee (f := 30) rfl ?_); (try (refine gate_guard (by rfl) ?_; dsimp only)); refine goesL_ (some 9) rfl rfl Try.func30 (by kernel_rfl) rfl #[.agg #[.int .i64 a0, .int .i64 a1, .slice A2 l2.length c2, .slice A3 l3.length c3, .slice A4 l4.length c4, .slice A5 l5.length c5]] rfl (by (try simp only [List.map_toArray, List.map_cons, List.map_nil]); first | done | rfl) ?_; refine (impl_ValidChecker.calls k a0 a1 A2 c2 l2 A3 c3 l3 A4 c4 l4 A5 c5 l5 false _ (Kd.C_below HR2.out HB.out) HC2.out (Kd.C_below HR3.out HB.out) HC3.out (Kd.C_below HR4.out HB.out) HC4.out (Kd.C_below HR5.out HB.out) HC5.out HV.out).mono ?_; rintro e w9 ⟨rfl, hb⟩; refine ⟨_, rfl, ?_⟩; have n0_ := AZ.mk (pT HB.out hb); have n1_ := AZ.mk (bb_ BC.out hb); clear HB BC; have HB := n0_; have BC := n1_; clear n0_ n1_; clear hb hz0 hz1 hz2 hz3 hz4 hz5; have hz0 := (bc BC.out 0).trans rfl; have hz1 := (bc BC.out 1).trans rfl; have hz2 := (bc BC.out 2).trans rfl; have hz3 := (bc BC.out 3).trans rfl; have hz4 := (bc BC.out 4).trans rfl; have hz5 := (bc BC.out 5).trans rfl))
  go_ret2
  exact ⟨rfl, HB.out⟩
 | true =>
  rw [if_pos rfl] at h
  by_cases hx : 0 ≤ x ∧ x ≤ 5
  ·rw [if_pos hx] at h
   have HI := AZ.mk (show impl_within.f x 0 5 = some true by unfold impl_within.f; rw [if_pos hx.1, decide_eq_true hx.2])
   by_cases hc : okK a0 a1 l2 l3 l4 l5 = true
   ·rw [if_pos hc] at h
    simp only [Option.some.injEq, Prod.mk.injEq] at h
    obtain ⟨rfl, rfl⟩ := h
    obtain ⟨n, rfl⟩ : ∃ n : Nat, x = (n : Int) := ⟨x.toNat, by omega⟩
    have hp := okK_parts hc
    have hck := ck_ofK hc
    obtain ⟨s, rfl⟩ : ∃ n : Nat, a1 = (n : Int) := ⟨a1.toNat, by omega⟩
    have CK := AZ.mk hck
    have HN := AZ.mk (show n ≤ 5 by omega)
    have HSL := AZ.mk (show s < l2.length by omega)
    have HNL : AZ (∀ W : World, (Kd.int .i64).C W none ([] : List Int).length []) := ⟨fun W => Kd.C_nil _ _⟩
    rw [Int.toNat_natCast, Int.toNat_natCast]
    clear hx hc hck hp
    go_enter Try.func10, Try.ntmps10
    go_wp2_with (first | ((with_reducible refine gate_dst (N := 2) rfl ?_); refine box_event ?hg (N := 2) ?hd (cs := #[.int .i64 a0, .int .i64 (s : Int), .slice A2 l2.length c2, .slice A3 l3.length c3, .slice A4 l4.length c4, .slice A5 l5.length c5]) (t := 36) ?hr ?_; (case hd => rfl); (case hg => rfl); (case hr => first | (go_simp; done) | (go_simp; rfl)); intro gC hg WgC hbx hb; have BC := AZ.mk hbx; have n0_ := AZ.mk (pT HB.out hb); clear HB; have HB := n0_; clear n0_; clear hb hbx hg; have hz0 := (bc BC.out 0).trans rfl; have hz1 := (bc BC.out 1).trans rfl; have hz2 := (bc BC.out 2).trans rfl; have hz3 := (bc BC.out 3).trans rfl; have hz4 := (bc BC.out 4).trans rfl; have hz5 := (bc BC.out 5).trans rfl) | ((with_reducible refine gate_callee (f := 30) rfl ?_); (try (refine gate_guard (by rfl) ?_; dsimp only)); refine goesL_ (some 9) rfl rfl Try.func30 (by kernel_rfl) rfl #[.agg #[.int .i64 a0, .int .i64 (s : Int), .slice A2 l2.length c2, .slice A3 l3.length c3, .slice A4 l4.length c4, .slice A5 l5.length c5]] rfl (by (try simp only [List.map_toArray, List.map_cons, List.map_nil]); first | done | rfl) ?_; refine (impl_ValidChecker.calls k a0 (s : Int) A2 c2 l2 A3 c3 l3 A4 c4 l4 A5 c5 l5 true _ (Kd.C_below HR2.out HB.out) HC2.out (Kd.C_below HR3.out HB.out) HC3.out (Kd.C_below HR4.out HB.out) HC4.out (Kd.C_below HR5.out HB.out) HC5.out HV.out).mono ?_; rintro e w9 ⟨rfl, hb⟩; refine ⟨_, rfl, ?_⟩; have n0_ := AZ.mk (pT HB.out hb); have n1_ := AZ.mk (bb_ BC.out hb); clear HB BC; have HB := n0_; have BC := n1_; clear n0_ n1_; clear hb hz0 hz1 hz2 hz3 hz4 hz5; have hz0 := (bc BC.out 0).trans rfl; have hz1 := (bc BC.out 1).trans rfl; have hz2 := (bc BC.out 2).trans rfl; have hz3 := (bc BC.out 3).trans rfl; have hz4 := (bc BC.out 4).trans rfl; have hz5 := (bc BC.out 5).trans rfl) | ((with_reducible refine gate_callee (f := 31) rfl ?_); (try (refine gate_guard (by rfl) ?_; dsimp only)); refine goesL_ (some 13) rfl rfl Try.func31 (by kernel_rfl) rfl #[.int .i64 (n : Int), .int .i64 0, .int .i64 5] rfl (by (try simp only [List.map_toArray, List.map_cons, List.map_nil]); first | done | rfl) ?_; refine (impl_within.calls (n : Int) 0 5 true _ HI.out).mono ?_; rintro e w13 ⟨rfl, hd⟩; refine ⟨_, rfl, ?_⟩; have hb := hd.below; have n0_ := AZ.mk (pT HB.out hb); have n1_ := AZ.mk (bb_ BC.out hb); clear HB BC; have HB := n0_; have BC := n1_; clear n0_ n1_; clear hb hd hz0 hz1 hz2 hz3 hz4 hz5; have hz0 := (bc BC.out 0).trans rfl; have hz1 := (bc BC.out 1).trans rfl; have hz2 := (bc BC.out 2).trans rfl; have hz3 := (bc BC.out 3).trans rfl; have hz4 := (bc BC.out 4).trans rfl; have hz5 := (bc BC.out 5).trans rfl) | ((with_reducible refine gate_dst (N := 6) rfl ?_); refine box_event ?hg (N := 6) ?hd (cs := #[.nilFunc]) (t := 59) ?hr ?_; (case hd => rfl); (case hg => rfl); (case hr => first | (go_simp; done) | (go_simp; rfl)); intro gF hg WgF hbx hb; have BF0 := AZ.mk hbx; have GF := AZ.mk (show w.heap.size ≤ gF by rw [hg]; exact pZ HB.out); have NBC := AZ.mk (show gC ≠ gF by rw [hg]; exact Nat.ne_of_lt (blk_lt BC.out)); have n0_ := AZ.mk (pT HB.out hb); have n1_ := AZ.mk (bb_ BC.out hb); clear HB BC; have HB := n0_; have BC := n1_; clear n0_ n1_; clear hb hbx hg hz0 hz1 hz2 hz3 hz4 hz5; have hz0 := (bc BC.out 0).trans rfl; have hz1 := (bc BC.out 1).trans rfl; have hz2 := (bc BC.out 2).trans rfl; have hz3 := (bc BC.out 3).trans rfl; have hz4 := (bc BC.out 4).trans rfl; have hz5 := (bc BC.out 5).trans rfl) | ((with_reducible refine gate_ (.store 59 (.tmp 6) (.tmp 15)) rfl ?_); have hc_ := (bc BF0.out 0).trans rfl; have hf_ := bf BF0.out 0; refine store_event (t := 59) (p := 6) (v := .tmp 15) (w1 := (WgF.setCell ⟨gF, 0, none⟩ (.func (.func 32) #[] #[.pointer (some ⟨gC, 0, none⟩), .pointer (some ⟨gF, 0, none⟩)]))) ?hg ?ho ?hn ?hr ?_; (case ho => rfl); (case hg => rfl); (case hn => rfl); (case hr => first | (go_simp; done) | (go_simp; rw [run_store _ _ _ _ _ rfl]; go_simp; try rfl)); intro w9 hw9; clear hc_ hf_; have n0_ := AZ.mk (show Below w.heap.size w w9 by rw [hw9]; exact pS HB.out GF.out); have m0_ := AZ.mk (show w9.heap[gC]? = some (.cells #[.int .i64 a0, .int .i64 (s : Int), .slice A2 l2.length c2, .slice A3 l3.length c3, .slice A4 l4.length c4, .slice A5 l5.length c5] 36 (0, 0)) by rw [hw9]; exact (Below.heap_setCell _ _ _ _ NBC.out).trans BC.out); have BF := AZ.mk (show w9.heap[gF]? = some (.cells #[.func (.func 32) #[] #[.pointer (some ⟨gC, 0, none⟩), .pointer (some ⟨gF, 0, none⟩)]] 59 (0, 0)) by rw [hw9]; exact blk_put BF0.out 0 _ rfl); clear HB BF0 BC hw9 hz0 hz1 hz2 hz3 hz4 hz5; have HB := n0_; clear n0_; have BC := m0_; clear m0_; have hz0 := (bc BC.out 0).trans rfl; have hz1 := (bc BC.out 1).trans rfl; have hz2 := (bc BC.out 2).trans rfl; have hz3 := (bc BC.out 3).trans rfl; have hz4 := (bc BC.out 4).trans rfl; have hz5 := (bc BC.out 5).trans rfl; have hcf := (bc BF.out 0).trans rfl) | ((with_reducible refine gate_value (t := 16) rfl ?_); (try (refine gate_guard (by rfl) ?_; dsimp only)); refine goesVL_ (some 20) rfl rfl Try.func32 (by kernel_rfl) rfl #[.int .i64 (s : Int), .slice none 0 0, .int .i64 (n : Int)] _ rfl (by rfl) (by (try simp only [List.map_toArray, List.map_cons, List.map_nil]); first | done | rfl) rfl ?_; refine (cc_calls a0 (s : Int) A2 c2 l2 A3 c3 l3 A4 c4 l4 A5 c5 l5 CK.out gC gF n HN.out s [] none 0 _ HSL.out (fun z hz => absurd hz (by simp)) (by have := HN.out; simp; omega) ⟨BC.out, BF.out, Kd.C_below HR2.out HB.out, Kd.C_below HR3.out HB.out, Kd.C_below HR4.out HB.out, Kd.C_below HR5.out HB.out⟩ (HNL.out _) (Nat.le_refl _)).mono ?_; rintro e w20 ⟨rfl, hb⟩; refine ⟨_, rfl, ?_⟩; have n0_ := AZ.mk (pT HB.out hb); clear HB; have HB := n0_; clear n0_; clear hb))
    go_ret2
    exact ⟨rfl, HB.out⟩
   ·rw [if_neg hc] at h
    cases h
  ·rw [if_neg hx] at h
   simp only [Option.some.injEq, Prod.mk.injEq] at h
   obtain ⟨rfl, rfl⟩ := h
   have HI := AZ.mk (show impl_within.f x 0 5 = some false by
    unfold impl_within.f
    by_cases h0 : x ≥ 0
    ·rw [if_pos h0, decide_eq_false (by omega)]
    ·rw [if_neg h0])
   clear hx
   go_enter Try.func10, Try.ntmps10
   go_wp2_with (first | ((with_reducible refine gate_dst (N := 2) rfl ?_); refine box_event ?hg (N := 2) ?hd (cs := #[.int .i64 a0, .int .i64 a1, .slice A2 l2.length c2, .slice A3 l3.length c3, .slice A4 l4.length c4, .slice A5 l5.length c5]) (t := 36) ?hr ?_; (case hd => rfl); (case hg => rfl); (case hr => first | (go_simp; done) | (go_simp; rfl)); intro gC hg WgC hbx hb; have BC := AZ.mk hbx; have n0_ := AZ.mk (pT HB.out hb); clear HB; have HB := n0_; clear n0_; clear hb hbx hg; have hz0 := (bc BC.out 0).trans rfl; have hz1 := (bc BC.out 1).trans rfl; have hz2 := (bc BC.out 2).trans rfl; have hz3 := (bc BC.out 3).trans rfl; have hz4 := (bc BC.out 4).trans rfl; have hz5 := (bc BC.out 5).trans rfl) | ((with_reducible refine gate_callee (f := 30) rfl ?_); (try (refine gate_guard (by rfl) ?_; dsimp only)); refine goesL_ (some 9) rfl rfl Try.func30 (by kernel_rfl) rfl #[.agg #[.int .i64 a0, .int .i64 a1, .slice A2 l2.length c2, .slice A3 l3.length c3, .slice A4 l4.length c4, .slice A5 l5.length c5]] rfl (by (try simp only [List.map_toArray, List.map_cons, List.map_nil]); first | done | rfl) ?_; refine (impl_ValidChecker.calls k a0 a1 A2 c2 l2 A3 c3 l3 A4 c4 l4 A5 c5 l5 true _ (Kd.C_below HR2.out HB.out) HC2.out (Kd.C_below HR3.out HB.out) HC3.out (Kd.C_below HR4.out HB.out) HC4.out (Kd.C_below HR5.out HB.out) HC5.out HV.out).mono ?_; rintro e w9 ⟨rfl, hb⟩; refine ⟨_, rfl, ?_⟩; have n0_ := AZ.mk (pT HB.out hb); have n1_ := AZ.mk (bb_ BC.out hb); clear HB BC; have HB := n0_; have BC := n1_; clear n0_ n1_; clear hb hz0 hz1 hz2 hz3 hz4 hz5; have hz0 := (bc BC.out 0).trans rfl; have hz1 := (bc BC.out 1).trans rfl; have hz2 := (bc BC.out 2).trans rfl; have hz3 := (bc BC.out 3).trans rfl; have hz4 := (bc BC.out 4).trans rfl; have hz5 := (bc BC.out 5).trans rfl) | ((with_reducible refine gate_callee (f := 31) rfl ?_); (try (refine gate_guard (by rfl) ?_; dsimp only)); refine goesL_ (some 13) rfl rfl Try.func31 (by kernel_rfl) rfl #[.int .i64 x, .int .i64 0, .int .i64 5] rfl (by (try simp only [List.map_toArray, List.map_cons, List.map_nil]); first | done | rfl) ?_; refine (impl_within.calls x 0 5 false _ HI.out).mono ?_; rintro e w13 ⟨rfl, hd⟩; refine ⟨_, rfl, ?_⟩; have hb := hd.below; have n0_ := AZ.mk (pT HB.out hb); have n1_ := AZ.mk (bb_ BC.out hb); clear HB BC; have HB := n0_; have BC := n1_; clear n0_ n1_; clear hb hd hz0 hz1 hz2 hz3 hz4 hz5; have hz0 := (bc BC.out 0).trans rfl; have hz1 := (bc BC.out 1).trans rfl; have hz2 := (bc BC.out 2).trans rfl; have hz3 := (bc BC.out 3).trans rfl; have hz4 := (bc BC.out 4).trans rfl; have hz5 := (bc BC.out 5).trans rfl))
   go_ret2
   exact ⟨rfl, HB.out⟩
end Go.Proofs.Ytlmkkmoammgjdaa.P
namespace Go.Proofs.Ytlmkkmoammgjdaa.P
open Go.RowKit Go.Proofs.YtlmkkmoammgjdaaW.PrintWords Go.Proofs.YtlmkkmoammgjdaaW.PrintLast Go.Proofs.YtlmkkmoammgjdaaW.PrintMore
attribute [local go_sem] max2_int min2_int max_two min_two max_three min_three max_four min_four
set_option linter.unusedVariables false
set_option linter.unusedSimpArgs false
set_option maxHeartbeats 4000000 in
set_option maxRecDepth 100000 in
theorem impl_CountTaken.calls (k : Nat) (a0_0 : Int) (a0_1 : Int) (A0_2 : Option Addr) (c0_2 : Nat) (l0_2 : List Bool) (A0_3 : Option Addr) (c0_3 : Nat) (l0_3 : List (List (S92))) (A0_4 : Option Addr) (c0_4 : Nat) (l0_4 : List (List (List Int))) (A0_5 : Option Addr) (c0_5 : Nat) (l0_5 : List (List Int)) (a1 : Int) (r1 : Int) (r2 : Int) (w : World) (hr0_2 : Kd.C Kd.bool w A0_2 l0_2.length l0_2) (hc0_2 : l0_2.length ≤ c0_2) (hr0_3 : Kd.C (Kd.slice 92 k92) w A0_3 l0_3.length l0_3) (hc0_3 : l0_3.length ≤ c0_3) (hr0_4 : Kd.C (Kd.slice 60 (Kd.slice 2 (Kd.int .i64))) w A0_4 l0_4.length l0_4) (hc0_4 : l0_4.length ≤ c0_4) (hr0_5 : Kd.C (Kd.slice 2 (Kd.int .i64)) w A0_5 l0_5.length l0_5) (hc0_5 : l0_5.length ≤ c0_5) (h : impl_CountTaken.f k a0_0 a0_1 l0_2 l0_3 l0_4 l0_5 a1 = some (r1, r2)) :
  Calls Try.prog 10 #[.agg #[.int .i64 a0_0, .int .i64 a0_1, .slice A0_2 l0_2.length c0_2, .slice A0_3 l0_3.length c0_3, .slice A0_4 l0_4.length c0_4, .slice A0_5 l0_5.length c0_5], .int .i64 a1] w fun e w' => e = .returned (.tuple #[.int .i64 r1, .int .i64 r2]) ∧ Below w.heap.size w w' := by
 exact impl_CountTaken.walk k a0_0 a0_1 A0_2 c0_2 l0_2 A0_3 c0_3 l0_3 A0_4 c0_4 l0_4 A0_5 c0_5 l0_5 a1 r1 r2 w hr0_2 hc0_2 hr0_3 hc0_3 hr0_4 hc0_4 hr0_5 hc0_5 h
end Go.Proofs.Ytlmkkmoammgjdaa.P
namespace Go.Proofs.Ytlmkkmoammgjdaa.P
open Go.RowKit Go.Proofs.YtlmkkmoammgjdaaW.PrintWords Go.Proofs.YtlmkkmoammgjdaaW.PrintLast Go.Proofs.YtlmkkmoammgjdaaW.PrintMore
attribute [local go_sem] max2_int min2_int max_two min_two max_three min_three max_four min_four
set_option linter.unusedVariables false
set_option linter.unusedSimpArgs false
def laws_eqBoolS.l0 : Nat → List Bool → List Bool → Int → Option (Bool)
 | 0, _, _, _ => none
 | k + 1, x0, x1, x5 => if x5 < (x0.length : Int) then (if 0 ≤ x5 then (if x5 < (x1.length : Int) then (if ((rdOf false x0 x5) != (rdOf false x1 x5)) = true then (some false) else (laws_eqBoolS.l0 k x0 x1 (wrap64 (x5 + 1)))) else (none)) else (none)) else (some true)
def laws_eqBoolS.f (k : Nat) (l0 : List Bool) (l1 : List Bool) : Option (Bool) := if (l0.length : Int) = (l1.length : Int) then (laws_eqBoolS.l0 k l0 l1 0) else (some false)
set_option maxHeartbeats 8000000 in
set_option maxRecDepth 100000 in
theorem laws_eqBoolS.calls (k : Nat) (A0 : Option Addr) (c0 : Nat) (l0 : List Bool) (A1 : Option Addr) (c1 : Nat) (l1 : List Bool) (r : Bool) (w : World) (hr0 : Kd.C Kd.bool w A0 l0.length l0) (hc0 : l0.length ≤ c0) (hr1 : Kd.C Kd.bool w A1 l1.length l1) (hc1 : l1.length ≤ c1) (h : laws_eqBoolS.f k l0 l1 = some r) :
  Calls Try.prog 34 #[.slice A0 l0.length c0, .slice A1 l1.length c1] w fun e w' => e = .returned (.bool r) ∧ Drawn0 w w' := by
 have HR0 := AZ.mk hr0
 have HC0 := AZ.mk hc0
 clear hr0 hc0
 have HR1 := AZ.mk hr1
 have HC1 := AZ.mk hc1
 clear hr1 hc1
 have H : (if (l0.length : Int) = (l1.length : Int) then (laws_eqBoolS.l0 k l0 l1 0) else (some false)) = some r := h
 clear h
 by_cases c3 : (l0.length : Int) = (l1.length : Int)
 rotate_left
 ·rw [if_neg c3] at H
  have c3b0 : ((l0.length : Int) == (l1.length : Int)) = false := beq_eq_false_iff_ne.mpr c3
  have c3b1 : ((l0.length : Int) != (l1.length : Int)) = true := bne_iff_ne.mpr c3
  have c3b2 : (l0.length == l1.length) = false := by first | simpa using c3 | (simp at c3 ⊢; omega)
  obtain rfl := Option.some.inj H
  go_enter Try.func34, Try.ntmps34
  go_wp2
  repeat (go_quiet (fail); try go_wp2)
  go_ret
  exact ⟨by first | rfl | (simp; done) | (simp [*]; done), by repeat (first | exact Drawn0.refl _ | apply Drawn0.step)⟩
 rw [if_pos c3] at H
 have c3b0 : ((l0.length : Int) == (l1.length : Int)) = true := beq_iff_eq.mpr c3
 have c3b1 : ((l0.length : Int) != (l1.length : Int)) = false := bne_eq_false_iff_eq.mpr c3
 have c3b2 : (l0.length == l1.length) = true := by first | simpa using c3 | (simp at c3 ⊢; omega)
 clear c3
 have H' := AZ.mk H
 clear H
 go_enter Try.func34, Try.ntmps34
 go_wp2
 repeat (go_quiet (fail); try go_wp2)
 go_loopg [5] k (fun kq v5 w' => ∃ (x5_1 : Int), v5 = .int .i64 x5_1 ∧ AZ (laws_eqBoolS.l0 kq l0 l1 x5_1 = some r) ∧ AZ (kq ≤ k) ∧ Drawn0 w w')
 case atStart => exact ⟨(0), (by first | rfl | (simp; done) | (simp [*]; done)), H', ⟨Nat.le_refl _⟩, by repeat (first | exact Drawn0.refl _ | apply Drawn0.step)⟩
 case round =>
  clear H'
  try clear c1
  try clear p2
  try clear c3
  try clear c3b0
  try clear c3b1
  try clear c3b2
  obtain ⟨x5_1, rfl, HA, HK1, ⟨m1, rfl⟩⟩ := hrel
  cases gk with
  | zero => exact absurd HA.out (by simp [laws_eqBoolS.l0])
  | succ k1 =>
   have H := HA.out
   clear HA
   simp only [laws_eqBoolS.l0] at H
   by_cases c4 : x5_1 < (l0.length : Int)
   rotate_left
   ·rw [if_neg c4] at H
    have c4b0 : decide (x5_1 < (l0.length : Int)) = false := decide_eq_false c4
    clear c4
    obtain rfl := Option.some.inj H
    go_wp2
    repeat (go_quiet (fail); try go_wp2)
    go_ret
    exact ⟨by first | rfl | (simp; done) | (simp [*]; done), by repeat (first | exact Drawn0.refl _ | apply Drawn0.step)⟩
   rw [if_pos c4] at H
   have c4b0 : decide (x5_1 < (l0.length : Int)) = true := decide_eq_true c4
   clear c4
   by_cases c5 : 0 ≤ x5_1
   rotate_left
   ·rw [if_neg c5] at H
    exact absurd H (by simp)
   rw [if_pos c5] at H
   have c5b0 : decide (0 ≤ x5_1) = true := decide_eq_true c5
   clear c5
   by_cases c6 : x5_1 < (l1.length : Int)
   rotate_left
   ·rw [if_neg c6] at H
    exact absurd H (by simp)
   rw [if_pos c6] at H
   have c6b0 : decide (x5_1 < (l1.length : Int)) = true := decide_eq_true c6
   clear c6
   by_cases c7 : ((rdOf false l0 x5_1) != (rdOf false l1 x5_1)) = true
   ·rw [if_pos c7] at H
    have c7b0 : ((rdOf false l0 x5_1) != (rdOf false l1 x5_1)) = true := c7
    (try (have c7b1 : decide ((rdOf false l0 x5_1) = (rdOf false l1 x5_1)) = false := by simpa using c7))
    (try (have c7b2 : ((rdOf false l0 x5_1) == (rdOf false l1 x5_1)) = false := by simpa using c7))
    (try (have c7b3 : ¬ ((rdOf false l0 x5_1) = (rdOf false l1 x5_1)) := by simpa using c7))
    clear c7
    obtain rfl := Option.some.inj H
    have p294 : 0 ≤ (x5_1 : Int) := oT (by first | (with_reducible assumption) | assumption)
    have q294 : x5_1 < (l0.length : Int) := oT (by first | (with_reducible assumption) | assumption)
    obtain ⟨ad294, e294, hx294_0⟩ := Kd.at_bool HR0.out x5_1 p294 q294
    cases e294
    replace p294 := eq_true p294
    replace q294 := eq_true q294
    have p295 : 0 ≤ (x5_1 : Int) := oT (by first | (with_reducible assumption) | assumption)
    have q295 : x5_1 < (l1.length : Int) := oT (by first | (with_reducible assumption) | assumption)
    obtain ⟨ad295, e295, hx295_0⟩ := Kd.at_bool HR1.out x5_1 p295 q295
    cases e295
    replace p295 := eq_true p295
    replace q295 := eq_true q295
    go_wp2
    repeat (go_quiet (fail); try go_wp2)
    go_ret
    exact ⟨by first | rfl | (simp; done) | (simp [*]; done), by repeat (first | exact Drawn0.refl _ | apply Drawn0.step)⟩
   rw [if_neg c7] at H
   have c7b0 : ((rdOf false l0 x5_1) != (rdOf false l1 x5_1)) = false := by simpa using c7
   (try (have c7b1 : decide ((rdOf false l0 x5_1) = (rdOf false l1 x5_1)) = true := by simpa using c7))
   (try (have c7b2 : ((rdOf false l0 x5_1) == (rdOf false l1 x5_1)) = true := by simpa using c7))
   clear c7
   have H' := AZ.mk H
   clear H
   have p294 : 0 ≤ (x5_1 : Int) := oT (by first | (with_reducible assumption) | assumption)
   have q294 : x5_1 < (l0.length : Int) := oT (by first | (with_reducible assumption) | assumption)
   obtain ⟨ad294, e294, hx294_0⟩ := Kd.at_bool HR0.out x5_1 p294 q294
   cases e294
   replace p294 := eq_true p294
   replace q294 := eq_true q294
   have p295 : 0 ≤ (x5_1 : Int) := oT (by first | (with_reducible assumption) | assumption)
   have q295 : x5_1 < (l1.length : Int) := oT (by first | (with_reducible assumption) | assumption)
   obtain ⟨ad295, e295, hx295_0⟩ := Kd.at_bool HR1.out x5_1 p295 q295
   cases e295
   replace p295 := eq_true p295
   replace q295 := eq_true q295
   go_wp2
   repeat (go_quiet (fail); try go_wp2)
   go_roundg k1
   case measure => have := HK1.out; omega
   case rel => exact ⟨(wrap64 (x5_1 + 1)), (by first | rfl | (simp; done) | (simp [*]; done)), H', ⟨by have := HK1.out; omega⟩, by repeat (first | exact Drawn0.refl _ | apply Drawn0.step)⟩
end Go.Proofs.Ytlmkkmoammgjdaa.P
namespace Go.Proofs.Ytlmkkmoammgjdaa.P
open Go.RowKit Go.Proofs.YtlmkkmoammgjdaaW.PrintWords Go.Proofs.YtlmkkmoammgjdaaW.PrintLast Go.Proofs.YtlmkkmoammgjdaaW.PrintMore
attribute [local go_sem] max2_int min2_int max_two min_two max_three min_three max_four min_four
set_option linter.unusedVariables false
set_option linter.unusedSimpArgs false
def laws_eqPush.f (a0_0 : Int) (a0_1 : Int) (a1_0 : Int) (a1_1 : Int) : Option (Bool) := if a0_0 = a1_0 then (if a0_1 = a1_1 then (some true) else (some false)) else (some false)
set_option maxHeartbeats 8000000 in
set_option maxRecDepth 100000 in
theorem laws_eqPush.calls (a0_0 : Int) (a0_1 : Int) (a1_0 : Int) (a1_1 : Int) (r : Bool) (w : World) (h : laws_eqPush.f a0_0 a0_1 a1_0 a1_1 = some r) :
  Calls Try.prog 71 #[.agg #[.int .i64 a0_0, .int .i64 a0_1], .agg #[.int .i64 a1_0, .int .i64 a1_1]] w fun e w' => e = .returned (.bool r) ∧ Below w.heap.size w w' := by
 have hu92 := Try.underlying92
 have HB := AZ.mk (Below.refl w.heap.size w)
 have H : (if a0_0 = a1_0 then (if a0_1 = a1_1 then (some true) else (some false)) else (some false)) = some r := h
 clear h
 by_cases c3 : a0_0 = a1_0
 rotate_left
 ·rw [if_neg c3] at H
  have c3b0 : (a0_0 == a1_0) = false := beq_eq_false_iff_ne.mpr c3
  have c3b1 : (a0_0 != a1_0) = true := bne_iff_ne.mpr c3
  obtain rfl := Option.some.inj H
  go_enter Try.func71, Try.ntmps71
  go_wp2_with (first | ((with_reducible refine gate_dst (N := 2) rfl ?_); refine box_event ?hg (N := 2) ?hd (cs := #[.int .i64 a0_0, .int .i64 a0_1]) (t := 92) ?hr ?_; (case hd => rfl); (case hg => rfl); (case hr => first | (go_simp; done) | (go_simp; rfl)); intro gb296 hg w15 hbox hb; have n0_ := AZ.mk (pT (by repeat (first | (with_reducible first | exact HB.out | apply pA | apply pN | apply pD) | exact HB.out)) hb); have n1_ := AZ.mk (hbox); have n2_ := AZ.mk ((by rw [hg]; exact (pZ (by repeat (first | (with_reducible first | exact HB.out | apply pA | apply pN | apply pD) | exact HB.out))) : w.heap.size ≤ gb296)); have n3_ := AZ.mk ((by rw [hg]; exact (pZ (by repeat (first | (with_reducible first | exact HB.out | apply pA | apply pN | apply pD) | exact HB.out))) : w.heap.size ≤ gb296)); clear HB; have HB := n0_; have BK296 := n1_; have GW296 := n2_; have GE296 := n3_; clear n0_ n1_ n2_ n3_; clear hb hbox hg) | ((with_reducible refine gate_dst (N := 3) rfl ?_); refine box_event ?hg (N := 3) ?hd (cs := #[.int .i64 a1_0, .int .i64 a1_1]) (t := 92) ?hr ?_; (case hd => rfl); (case hg => rfl); (case hr => first | (go_simp; done) | (go_simp; rfl)); intro gb297 hg w16 hbox hb; have n0_ := AZ.mk (bb_ (g := gb296) (o := .cells #[.int .i64 a0_0, .int .i64 a0_1] 92 (0, 0)) (by (with_reducible repeat (first | refine bn_ ?_ _ | refine bd_ ?_ | refine ba_ ?_ _)); exact BK296.out) hb); have n1_ := AZ.mk (pT (by repeat (first | (with_reducible first | exact HB.out | apply pA | apply pN | apply pD | refine pS ?_ GE296.out) | exact HB.out)) hb); have n2_ := AZ.mk (hbox); have n3_ := AZ.mk ((by rw [hg]; exact (pZ (by repeat (first | (with_reducible first | exact HB.out | apply pA | apply pN | apply pD | refine pS ?_ GE296.out) | exact HB.out))) : w.heap.size ≤ gb297)); have n4_ := AZ.mk ((by rw [hg]; exact (pZ (by repeat (first | (with_reducible first | exact HB.out | apply pA | apply pN | apply pD | refine pS ?_ GE296.out) | exact HB.out))) : w.heap.size ≤ gb297)); have n5_ := AZ.mk ((by rw [hg]; exact Nat.ne_of_lt (blk_lt (g := gb296) (o := .cells #[.int .i64 a0_0, .int .i64 a0_1] 92 (0, 0)) (by (with_reducible repeat (first | refine bn_ ?_ _ | refine bd_ ?_ | refine ba_ ?_ _)); exact BK296.out)) : gb296 ≠ gb297)); have n6_ := AZ.mk ((by rw [hg]; exact Nat.ne_of_gt (blk_lt (g := gb296) (o := .cells #[.int .i64 a0_0, .int .i64 a0_1] 92 (0, 0)) (by (with_reducible repeat (first | refine bn_ ?_ _ | refine bd_ ?_ | refine ba_ ?_ _)); exact BK296.out)) : gb297 ≠ gb296)); clear BK296; clear HB; have BK296 := n0_; have HB := n1_; have BK297 := n2_; have GW297 := n3_; have GE297 := n4_; have NB296_297 := n5_; have NB297_296 := n6_; clear n0_ n1_ n2_ n3_ n4_ n5_ n6_; clear hb hbox hg; have hnb17 := NB296_297.out; have hnc17 := NB297_296.out; have hcz18_0 : w16.cell? ⟨gb296, 0, none⟩ = some (.int .i64 a0_0) := (bc BK296.out 0).trans rfl; have hcz18_1 : w16.cell? ⟨gb296, 1, none⟩ = some (.int .i64 a0_1) := (bc BK296.out 1).trans rfl; have hfz18_0 := bf BK296.out 0; have hfz18_1 := bf BK296.out 1; have hcz19_0 : w16.cell? ⟨gb297, 0, none⟩ = some (.int .i64 a1_0) := (bc BK297.out 0).trans rfl; have hcz19_1 : w16.cell? ⟨gb297, 1, none⟩ = some (.int .i64 a1_1) := (bc BK297.out 1).trans rfl; have hfz19_0 := bf BK297.out 0; have hfz19_1 := bf BK297.out 1))
  go_ret
  exact ⟨by first | rfl | (simp [errW_none, errW_some] <;> rfl) | (simp [*, errW_none, errW_some] <;> rfl), by repeat (first | (with_reducible first | exact HB.out | apply pA | apply pN | apply pD | refine pS ?_ GE296.out | refine pS ?_ GE297.out) | exact HB.out)⟩
 rw [if_pos c3] at H
 have c3b0 : (a0_0 == a1_0) = true := beq_iff_eq.mpr c3
 have c3b1 : (a0_0 != a1_0) = false := bne_eq_false_iff_eq.mpr c3
 clear c3
 by_cases c4 : a0_1 = a1_1
 ·rw [if_pos c4] at H
  have c4b0 : (a0_1 == a1_1) = true := beq_iff_eq.mpr c4
  have c4b1 : (a0_1 != a1_1) = false := bne_eq_false_iff_eq.mpr c4
  clear c4
  obtain rfl := Option.some.inj H
  go_enter Try.func71, Try.ntmps71
  go_wp2_with (first | ((with_reducible refine gate_dst (N := 2) rfl ?_); refine box_event ?hg (N := 2) ?hd (cs := #[.int .i64 a0_0, .int .i64 a0_1]) (t := 92) ?hr ?_; (case hd => rfl); (case hg => rfl); (case hr => first | (go_simp; done) | (go_simp; rfl)); intro gb296 hg w5 hbox hb; have n0_ := AZ.mk (pT (by repeat (first | (with_reducible first | exact HB.out | apply pA | apply pN | apply pD) | exact HB.out)) hb); have n1_ := AZ.mk (hbox); have n2_ := AZ.mk ((by rw [hg]; exact (pZ (by repeat (first | (with_reducible first | exact HB.out | apply pA | apply pN | apply pD) | exact HB.out))) : w.heap.size ≤ gb296)); have n3_ := AZ.mk ((by rw [hg]; exact (pZ (by repeat (first | (with_reducible first | exact HB.out | apply pA | apply pN | apply pD) | exact HB.out))) : w.heap.size ≤ gb296)); clear HB; have HB := n0_; have BK296 := n1_; have GW296 := n2_; have GE296 := n3_; clear n0_ n1_ n2_ n3_; clear hb hbox hg) | ((with_reducible refine gate_dst (N := 3) rfl ?_); refine box_event ?hg (N := 3) ?hd (cs := #[.int .i64 a1_0, .int .i64 a1_1]) (t := 92) ?hr ?_; (case hd => rfl); (case hg => rfl); (case hr => first | (go_simp; done) | (go_simp; rfl)); intro gb297 hg w6 hbox hb; have n0_ := AZ.mk (bb_ (g := gb296) (o := .cells #[.int .i64 a0_0, .int .i64 a0_1] 92 (0, 0)) (by (with_reducible repeat (first | refine bn_ ?_ _ | refine bd_ ?_ | refine ba_ ?_ _)); exact BK296.out) hb); have n1_ := AZ.mk (pT (by repeat (first | (with_reducible first | exact HB.out | apply pA | apply pN | apply pD | refine pS ?_ GE296.out) | exact HB.out)) hb); have n2_ := AZ.mk (hbox); have n3_ := AZ.mk ((by rw [hg]; exact (pZ (by repeat (first | (with_reducible first | exact HB.out | apply pA | apply pN | apply pD | refine pS ?_ GE296.out) | exact HB.out))) : w.heap.size ≤ gb297)); have n4_ := AZ.mk ((by rw [hg]; exact (pZ (by repeat (first | (with_reducible first | exact HB.out | apply pA | apply pN | apply pD | refine pS ?_ GE296.out) | exact HB.out))) : w.heap.size ≤ gb297)); have n5_ := AZ.mk ((by rw [hg]; exact Nat.ne_of_lt (blk_lt (g := gb296) (o := .cells #[.int .i64 a0_0, .int .i64 a0_1] 92 (0, 0)) (by (with_reducible repeat (first | refine bn_ ?_ _ | refine bd_ ?_ | refine ba_ ?_ _)); exact BK296.out)) : gb296 ≠ gb297)); have n6_ := AZ.mk ((by rw [hg]; exact Nat.ne_of_gt (blk_lt (g := gb296) (o := .cells #[.int .i64 a0_0, .int .i64 a0_1] 92 (0, 0)) (by (with_reducible repeat (first | refine bn_ ?_ _ | refine bd_ ?_ | refine ba_ ?_ _)); exact BK296.out)) : gb297 ≠ gb296)); clear BK296; clear HB; have BK296 := n0_; have HB := n1_; have BK297 := n2_; have GW297 := n3_; have GE297 := n4_; have NB296_297 := n5_; have NB297_296 := n6_; clear n0_ n1_ n2_ n3_ n4_ n5_ n6_; clear hb hbox hg; have hnb7 := NB296_297.out; have hnc7 := NB297_296.out; have hcz8_0 : w6.cell? ⟨gb296, 0, none⟩ = some (.int .i64 a0_0) := (bc BK296.out 0).trans rfl; have hcz8_1 : w6.cell? ⟨gb296, 1, none⟩ = some (.int .i64 a0_1) := (bc BK296.out 1).trans rfl; have hfz8_0 := bf BK296.out 0; have hfz8_1 := bf BK296.out 1; have hcz9_0 : w6.cell? ⟨gb297, 0, none⟩ = some (.int .i64 a1_0) := (bc BK297.out 0).trans rfl; have hcz9_1 : w6.cell? ⟨gb297, 1, none⟩ = some (.int .i64 a1_1) := (bc BK297.out 1).trans rfl; have hfz9_0 := bf BK297.out 0; have hfz9_1 := bf BK297.out 1))
  go_ret
  exact ⟨by first | rfl | (simp [errW_none, errW_some] <;> rfl) | (simp [*, errW_none, errW_some] <;> rfl), by repeat (first | (with_reducible first | exact HB.out | apply pA | apply pN | apply pD | refine pS ?_ GE296.out | refine pS ?_ GE297.out) | exact HB.out)⟩
 rw [if_neg c4] at H
 have c4b0 : (a0_1 == a1_1) = false := beq_eq_false_iff_ne.mpr c4
 have c4b1 : (a0_1 != a1_1) = true := bne_iff_ne.mpr c4
 obtain rfl := Option.some.inj H
 go_enter Try.func71, Try.ntmps71
 go_wp2_with (first | ((with_reducible refine gate_dst (N := 2) rfl ?_); refine box_event ?hg (N := 2) ?hd (cs := #[.int .i64 a0_0, .int .i64 a0_1]) (t := 92) ?hr ?_; (case hd => rfl); (case hg => rfl); (case hr => first | (go_simp; done) | (go_simp; rfl)); intro gb296 hg w10 hbox hb; have n0_ := AZ.mk (pT (by repeat (first | (with_reducible first | exact HB.out | apply pA | apply pN | apply pD) | exact HB.out)) hb); have n1_ := AZ.mk (hbox); have n2_ := AZ.mk ((by rw [hg]; exact (pZ (by repeat (first | (with_reducible first | exact HB.out | apply pA | apply pN | apply pD) | exact HB.out))) : w.heap.size ≤ gb296)); have n3_ := AZ.mk ((by rw [hg]; exact (pZ (by repeat (first | (with_reducible first | exact HB.out | apply pA | apply pN | apply pD) | exact HB.out))) : w.heap.size ≤ gb296)); clear HB; have HB := n0_; have BK296 := n1_; have GW296 := n2_; have GE296 := n3_; clear n0_ n1_ n2_ n3_; clear hb hbox hg) | ((with_reducible refine gate_dst (N := 3) rfl ?_); refine box_event ?hg (N := 3) ?hd (cs := #[.int .i64 a1_0, .int .i64 a1_1]) (t := 92) ?hr ?_; (case hd => rfl); (case hg => rfl); (case hr => first | (go_simp; done) | (go_simp; rfl)); intro gb297 hg w11 hbox hb; have n0_ := AZ.mk (bb_ (g := gb296) (o := .cells #[.int .i64 a0_0, .int .i64 a0_1] 92 (0, 0)) (by (with_reducible repeat (first | refine bn_ ?_ _ | refine bd_ ?_ | refine ba_ ?_ _)); exact BK296.out) hb); have n1_ := AZ.mk (pT (by repeat (first | (with_reducible first | exact HB.out | apply pA | apply pN | apply pD | refine pS ?_ GE296.out) | exact HB.out)) hb); have n2_ := AZ.mk (hbox); have n3_ := AZ.mk ((by rw [hg]; exact (pZ (by repeat (first | (with_reducible first | exact HB.out | apply pA | apply pN | apply pD | refine pS ?_ GE296.out) | exact HB.out))) : w.heap.size ≤ gb297)); have n4_ := AZ.mk ((by rw [hg]; exact (pZ (by repeat (first | (with_reducible first | exact HB.out | apply pA | apply pN | apply pD | refine pS ?_ GE296.out) | exact HB.out))) : w.heap.size ≤ gb297)); have n5_ := AZ.mk ((by rw [hg]; exact Nat.ne_of_lt (blk_lt (g := gb296) (o := .cells #[.int .i64 a0_0, .int .i64 a0_1] 92 (0, 0)) (by (with_reducible repeat (first | refine bn_ ?_ _ | refine bd_ ?_ | refine ba_ ?_ _)); exact BK296.out)) : gb296 ≠ gb297)); have n6_ := AZ.mk ((by rw [hg]; exact Nat.ne_of_gt (blk_lt (g := gb296) (o := .cells #[.int .i64 a0_0, .int .i64 a0_1] 92 (0, 0)) (by (with_reducible repeat (first | refine bn_ ?_ _ | refine bd_ ?_ | refine ba_ ?_ _)); exact BK296.out)) : gb297 ≠ gb296)); clear BK296; clear HB; have BK296 := n0_; have HB := n1_; have BK297 := n2_; have GW297 := n3_; have GE297 := n4_; have NB296_297 := n5_; have NB297_296 := n6_; clear n0_ n1_ n2_ n3_ n4_ n5_ n6_; clear hb hbox hg; have hnb12 := NB296_297.out; have hnc12 := NB297_296.out; have hcz13_0 : w11.cell? ⟨gb296, 0, none⟩ = some (.int .i64 a0_0) := (bc BK296.out 0).trans rfl; have hcz13_1 : w11.cell? ⟨gb296, 1, none⟩ = some (.int .i64 a0_1) := (bc BK296.out 1).trans rfl; have hfz13_0 := bf BK296.out 0; have hfz13_1 := bf BK296.out 1; have hcz14_0 : w11.cell? ⟨gb297, 0, none⟩ = some (.int .i64 a1_0) := (bc BK297.out 0).trans rfl; have hcz14_1 : w11.cell? ⟨gb297, 1, none⟩ = some (.int .i64 a1_1) := (bc BK297.out 1).trans rfl; have hfz14_0 := bf BK297.out 0; have hfz14_1 := bf BK297.out 1))
 go_ret
 exact ⟨by first | rfl | (simp [errW_none, errW_some] <;> rfl) | (simp [*, errW_none, errW_some] <;> rfl), by repeat (first | (with_reducible first | exact HB.out | apply pA | apply pN | apply pD | refine pS ?_ GE296.out | refine pS ?_ GE297.out) | exact HB.out)⟩
end Go.Proofs.Ytlmkkmoammgjdaa.P
namespace Go.Proofs.Ytlmkkmoammgjdaa.P
open Go.RowKit Go.Proofs.YtlmkkmoammgjdaaW.PrintWords Go.Proofs.YtlmkkmoammgjdaaW.PrintLast Go.Proofs.YtlmkkmoammgjdaaW.PrintMore
attribute [local go_sem] max2_int min2_int max_two min_two max_three min_three max_four min_four
set_option linter.unusedVariables false
set_option linter.unusedSimpArgs false
def laws_eqPushS.l0 : Nat → List (S92) → List (S92) → Int → Option (Bool)
 | 0, _, _, _ => none
 | k + 1, x0, x1, x5 => if x5 < (x0.length : Int) then (if 0 ≤ x5 then (if x5 < (x1.length : Int) then ((laws_eqPush.f ((rd_T92 x0 x5).f0) ((rd_T92 x0 x5).f1) ((rd_T92 x1 x5).f0) ((rd_T92 x1 x5).f1)).bind fun t300 => (if t300 = true then (laws_eqPushS.l0 k x0 x1 (wrap64 (x5 + 1))) else (some false))) else (none)) else (none)) else (some true)
def laws_eqPushS.f (k : Nat) (l0 : List (S92)) (l1 : List (S92)) : Option (Bool) := if (l0.length : Int) = (l1.length : Int) then (laws_eqPushS.l0 k l0 l1 0) else (some false)
def laws_eqPushS.T6 : Bool × List (List Nat × List Nat) := (true, [([], []), ([], []), ([0, 1], [0, 1]), ([2], [2]), ([], []), ([], []), ([4, 5], [4, 5]), ([6], [6]), ([3, 7], [3, 7]), ([8], [8])])
def laws_eqPushS.B6 : List Nat := [0, 0, 3, 7, 0, 0, 48, 112, 255, 511]
theorem laws_eqPushS.tab6 : rtab .any (opsOf Try.f62 6) = laws_eqPushS.T6 := by kernel_rfl
theorem laws_eqPushS.bits6 : waitsOk laws_eqPushS.T6.2 laws_eqPushS.B6 = true := by kernel_rfl
def laws_eqPushS.cz0 : List Nat := [0, 1, 2, 4, 5, 6, 403, 407]
set_option maxHeartbeats 8000000 in
set_option maxRecDepth 100000 in
theorem laws_eqPushS.calls (k : Nat) (A0 : Option Addr) (c0 : Nat) (l0 : List (S92)) (A1 : Option Addr) (c1 : Nat) (l1 : List (S92)) (r : Bool) (w : World) (hr0 : Kd.C k92 w A0 l0.length l0) (hc0 : l0.length ≤ c0) (hr1 : Kd.C k92 w A1 l1.length l1) (hc1 : l1.length ≤ c1) (h : laws_eqPushS.f k l0 l1 = some r) :
  Calls Try.prog 62 #[.slice A0 l0.length c0, .slice A1 l1.length c1] w fun e w' => e = .returned (.bool r) ∧ Below w.heap.size w w' := by
 have hu92 := Try.underlying92
 have HR0 := AZ.mk hr0
 have HC0 := AZ.mk hc0
 clear hr0 hc0
 have HR1 := AZ.mk hr1
 have HC1 := AZ.mk hc1
 clear hr1 hc1
 have HB := AZ.mk (Below.refl w.heap.size w)
 have H : (if (l0.length : Int) = (l1.length : Int) then (laws_eqPushS.l0 k l0 l1 0) else (some false)) = some r := h
 clear h
 by_cases c3 : (l0.length : Int) = (l1.length : Int)
 rotate_left
 ·rw [if_neg c3] at H
  have c3b0 : ((l0.length : Int) == (l1.length : Int)) = false := beq_eq_false_iff_ne.mpr c3
  have c3b1 : ((l0.length : Int) != (l1.length : Int)) = true := bne_iff_ne.mpr c3
  have c3b2 : (l0.length == l1.length) = false := by first | simpa using c3 | (simp at c3 ⊢; omega)
  obtain rfl := Option.some.inj H
  go_enter Try.func62, Try.ntmps62
  go_wp2
  go_ret
  exact ⟨by first | rfl | (simp [errW_none, errW_some] <;> rfl) | (simp [*, errW_none, errW_some] <;> rfl), by repeat (first | (with_reducible first | exact HB.out | apply pA | apply pN | apply pD) | exact HB.out)⟩
 rw [if_pos c3] at H
 have c3b0 : ((l0.length : Int) == (l1.length : Int)) = true := beq_iff_eq.mpr c3
 have c3b1 : ((l0.length : Int) != (l1.length : Int)) = false := bne_eq_false_iff_eq.mpr c3
 have c3b2 : (l0.length == l1.length) = true := by first | simpa using c3 | (simp at c3 ⊢; omega)
 clear c3
 have H' := AZ.mk H
 clear H
 go_enter Try.func62, Try.ntmps62
 go_wp2
 go_loopg [5] k (fun kq v5 w' => ∃ (x5_1 : Int), v5 = .int .i64 x5_1 ∧ AZ (laws_eqPushS.l0 kq l0 l1 x5_1 = some r) ∧ AZ (kq ≤ k) ∧ AZ (Below w.heap.size w w'))
 case atStart => exact ⟨(0), (by first | rfl | (simp; done) | (simp [*]; done)), H', ⟨Nat.le_refl _⟩, ⟨by repeat (first | (with_reducible first | exact HB.out | apply pA | apply pN | apply pD) | exact HB.out)⟩⟩
 case round =>
  clear H'
  try clear c1
  try clear p2
  try clear c3
  try clear c3b0
  try clear c3b1
  try clear c3b2
  obtain ⟨x5_1, rfl, HA, HK1, HB⟩ := hrel
  cases gk with
  | zero => exact absurd HA.out (by simp [laws_eqPushS.l0])
  | succ k1 =>
   have H := HA.out
   clear HA
   simp only [laws_eqPushS.l0] at H
   by_cases c4 : x5_1 < (l0.length : Int)
   rotate_left
   ·rw [if_neg c4] at H
    have c4b0 : decide (x5_1 < (l0.length : Int)) = false := decide_eq_false c4
    clear c4
    obtain rfl := Option.some.inj H
    go_wp2
    go_ret
    exact ⟨by first | rfl | (simp [errW_none, errW_some] <;> rfl) | (simp [*, errW_none, errW_some] <;> rfl), by repeat (first | (with_reducible first | exact HB.out | apply pA | apply pN | apply pD) | exact HB.out)⟩
   rw [if_pos c4] at H
   have c4b0 : decide (x5_1 < (l0.length : Int)) = true := decide_eq_true c4
   clear c4
   by_cases c5 : 0 ≤ x5_1
   rotate_left
   ·rw [if_neg c5] at H
    exact absurd H (by simp)
   rw [if_pos c5] at H
   have c5b0 : decide (0 ≤ x5_1) = true := decide_eq_true c5
   clear c5
   by_cases c6 : x5_1 < (l1.length : Int)
   rotate_left
   ·rw [if_neg c6] at H
    exact absurd H (by simp)
   rw [if_pos c6] at H
   have c6b0 : decide (x5_1 < (l1.length : Int)) = true := decide_eq_true c6
   clear c6
   replace H := Option.bind_eq_some_iff.mp H
   obtain ⟨t300, A70, H⟩ := H
   replace H : (if t300 = true then (laws_eqPushS.l0 k1 l0 l1 (wrap64 (x5_1 + 1))) else (some false)) = some r := H
   have A7 := AZ.mk A70
   clear A70
   by_cases c8 : t300 = true
   rotate_left
   ·replace c8 := Bool.eq_false_iff.mpr c8
    subst c8
    have H1 : (some false) = some r := by rw [if_neg (show ¬ (false = true) by decide)] at H; exact H
    clear H
    have H := H1
    clear H1
    obtain rfl := Option.some.inj H
    try go_wp2
    have n0_ := AZ.mk (pD HB.out)
    clear HB
    have HB := n0_
    clear n0_
    have p298 : 0 ≤ (x5_1 : Int) := oT (by first | (with_reducible assumption) | assumption)
    have q298 : x5_1 < (l0.length : Int) := oT (by first | (with_reducible assumption) | assumption)
    obtain ⟨ad298, e298, hx298_0, hx298_1⟩ := at_T92 HR0.out x5_1 p298 q298
    have hw298_1 := hx298_1
    have hw298_0 := hx298_0
    cases e298
    replace hx298_0 := (HB.out.cell (World.block_lt_of_cell? w _ hx298_0)).trans hx298_0
    replace hx298_1 := (HB.out.cell (World.block_lt_of_cell? w _ hx298_1)).trans hx298_1
    replace p298 := eq_true p298
    replace q298 := eq_true q298
    have p299 : 0 ≤ (x5_1 : Int) := oT (by first | (with_reducible assumption) | assumption)
    have q299 : x5_1 < (l1.length : Int) := oT (by first | (with_reducible assumption) | assumption)
    obtain ⟨ad299, e299, hx299_0, hx299_1⟩ := at_T92 HR1.out x5_1 p299 q299
    have hw299_1 := hx299_1
    have hw299_0 := hx299_0
    cases e299
    replace hx299_0 := (HB.out.cell (World.block_lt_of_cell? w _ hx299_0)).trans hx299_0
    replace hx299_1 := (HB.out.cell (World.block_lt_of_cell? w _ hx299_1)).trans hx299_1
    replace p299 := eq_true p299
    replace q299 := eq_true q299
    refine start_ (n := 10) (S := fun w' => w'.cell? (ad298.add ((x5_1).toNat * 2)) = some (.int .i64 ((rd_T92 l0 x5_1).f0)) ∧ w'.cell? ⟨(ad298.add ((x5_1).toNat * 2)).block, (ad298.add ((x5_1).toNat * 2)).off + 1, none⟩ = some (.int .i64 ((rd_T92 l0 x5_1).f1)) ∧ w'.cell? (ad299.add ((x5_1).toNat * 2)) = some (.int .i64 ((rd_T92 l1 x5_1).f0)) ∧ w'.cell? ⟨(ad299.add ((x5_1).toNat * 2)).block, (ad299.add ((x5_1).toNat * 2)).off + 1, none⟩ = some (.int .i64 ((rd_T92 l1 x5_1).f1))) (ds := []) (bz 10 0) (by kernel_rfl) rfl rfl ⟨((HB.out.cell (World.block_lt_of_cell? w _ hw298_0)).trans hw298_0), ((HB.out.cell (World.block_lt_of_cell? w _ hw298_1)).trans hw298_1), ((HB.out.cell (World.block_lt_of_cell? w _ hw299_0)).trans hw299_0), ((HB.out.cell (World.block_lt_of_cell? w _ hw299_1)).trans hw299_1)⟩ (fun hHeld => ?_); refine with_tabW laws_eqPushS.tab6 laws_eqPushS.bits6 (fun HT_ HW_ => ?_)
    generalize wr.drew = w11 at HB hx298_0 hx298_1 hx299_0 hx299_1 hHeld ⊢
    iterate 8 (first | (refine pz_ HT_ laws_eqPushS.cz0 rfl rfl rfl (v := ?_) (a' := ?_) (by kernel_rfl) (fun _ _ _ h => h) (Or.inl ⟨by rfl, ?_⟩) ?_ ?_; rotate_left; (intro w'; go_simp; with_reducible rfl); rotate_left; (simp only [Act.put, sA, sB, sC, i64_w, i32_w]; rfl)) | (refine tz_ HT_ HW_ laws_eqPushS.cz0 rfl rfl rfl (v := ?_) (a' := ?_) (by kernel_rfl) (fun _ _ _ h => h) (Or.inl ⟨by rfl, ?_⟩) hHeld ?_ ?_; rotate_left; (rintro w' ⟨s0, s1, s2, s3⟩; go_simp; with_reducible rfl); rotate_left; (simp only [Act.put, sA, sB, sC, i64_w, i32_w]; rfl)))
    refine one_ (i := 8) (N := some 25) (bz 10 511) rfl rfl (one_of HT_.out (by kernel_rfl)) (by decide) (fun K hK => ?_)
    refine goes_ Try.func71 (by kernel_rfl) rfl #[.agg #[.int .i64 ((rd_T92 l0 x5_1).f0), .int .i64 ((rd_T92 l0 x5_1).f1)], .agg #[.int .i64 ((rd_T92 l1 x5_1).f0), .int .i64 ((rd_T92 l1 x5_1).f1)]] (by rfl) rfl rfl (by (try simp only [List.map_toArray, List.map_cons, List.map_nil]); first | done | rfl | (simp only [List.length_drop, List.length_take]; rfl)) ?_
    with_reducible refine (laws_eqPush.calls ((rd_T92 l0 x5_1).f0) ((rd_T92 l0 x5_1).f1) ((rd_T92 l1 x5_1).f0) ((rd_T92 l1 x5_1).f1) false _ A7.out).mono ?_
    rintro e w12 ⟨rfl, hb⟩
    refine ⟨_, rfl, ?_⟩
    have n0_ := AZ.mk (pT (by repeat (first | (with_reducible first | exact HB.out | apply pA | apply pN | apply pD) | exact HB.out)) hb)
    clear HB
    have HB := n0_
    clear n0_
    (try clear hb)
    (try clear hb2)
    (try clear hk)
    (try clear hi)
    refine hK.out _ _ ⟨((HB.out.cell (World.block_lt_of_cell? w _ hw298_0)).trans hw298_0), ((HB.out.cell (World.block_lt_of_cell? w _ hw298_1)).trans hw298_1), ((HB.out.cell (World.block_lt_of_cell? w _ hw299_0)).trans hw299_0), ((HB.out.cell (World.block_lt_of_cell? w _ hw299_1)).trans hw299_1)⟩ (fun hHeld => ?_)
    clear hK K
    refine norm_ (a' := ?_) ?_ ?_
    rotate_left
    ·show Act.put _ (some 25) _ = _
     simp only [Act.put, sA, sB, sC, i64_w, i32_w]
     rfl
    refine pure_ (i := 9) (N := some 26) (v := ?_) (a' := ?_) (bz 10 1023) rfl rfl (any_of HT_.out (by kernel_rfl)) (fun _ _ _ h => h) (Or.inl ⟨by rfl, ?_⟩) ?_ ?_
    rotate_left
    ·intro w'
     go_simp
     with_reducible rfl
    rotate_left
    ·simp only [Act.put, sA, sB, sC, i64_w, i32_w]
     rfl
    refine done_ (done_of HT_.out (by kernel_rfl)) ?_
    try go_wp2
    go_ret
    exact ⟨by first | rfl | (simp [errW_none, errW_some] <;> rfl) | (simp [*, errW_none, errW_some] <;> rfl), by repeat (first | (with_reducible first | exact HB.out | apply pA | apply pN | apply pD) | exact HB.out)⟩
   subst c8
   have H1 : (laws_eqPushS.l0 k1 l0 l1 (wrap64 (x5_1 + 1))) = some r := by rw [if_pos rfl] at H; exact H
   clear H
   have H := H1
   clear H1
   have H' := AZ.mk H
   clear H
   try go_wp2
   have n0_ := AZ.mk (pD HB.out)
   clear HB
   have HB := n0_
   clear n0_
   have p298 : 0 ≤ (x5_1 : Int) := oT (by first | (with_reducible assumption) | assumption)
   have q298 : x5_1 < (l0.length : Int) := oT (by first | (with_reducible assumption) | assumption)
   obtain ⟨ad298, e298, hx298_0, hx298_1⟩ := at_T92 HR0.out x5_1 p298 q298
   have hw298_1 := hx298_1
   have hw298_0 := hx298_0
   cases e298
   replace hx298_0 := (HB.out.cell (World.block_lt_of_cell? w _ hx298_0)).trans hx298_0
   replace hx298_1 := (HB.out.cell (World.block_lt_of_cell? w _ hx298_1)).trans hx298_1
   replace p298 := eq_true p298
   replace q298 := eq_true q298
   have p299 : 0 ≤ (x5_1 : Int) := oT (by first | (with_reducible assumption) | assumption)
   have q299 : x5_1 < (l1.length : Int) := oT (by first | (with_reducible assumption) | assumption)
   obtain ⟨ad299, e299, hx299_0, hx299_1⟩ := at_T92 HR1.out x5_1 p299 q299
   have hw299_1 := hx299_1
   have hw299_0 := hx299_0
   cases e299
   replace hx299_0 := (HB.out.cell (World.block_lt_of_cell? w _ hx299_0)).trans hx299_0
   replace hx299_1 := (HB.out.cell (World.block_lt_of_cell? w _ hx299_1)).trans hx299_1
   replace p299 := eq_true p299
   replace q299 := eq_true q299
   refine start_ (n := 10) (S := fun w' => w'.cell? (ad298.add ((x5_1).toNat * 2)) = some (.int .i64 ((rd_T92 l0 x5_1).f0)) ∧ w'.cell? ⟨(ad298.add ((x5_1).toNat * 2)).block, (ad298.add ((x5_1).toNat * 2)).off + 1, none⟩ = some (.int .i64 ((rd_T92 l0 x5_1).f1)) ∧ w'.cell? (ad299.add ((x5_1).toNat * 2)) = some (.int .i64 ((rd_T92 l1 x5_1).f0)) ∧ w'.cell? ⟨(ad299.add ((x5_1).toNat * 2)).block, (ad299.add ((x5_1).toNat * 2)).off + 1, none⟩ = some (.int .i64 ((rd_T92 l1 x5_1).f1))) (ds := []) (bz 10 0) (by kernel_rfl) rfl rfl ⟨((HB.out.cell (World.block_lt_of_cell? w _ hw298_0)).trans hw298_0), ((HB.out.cell (World.block_lt_of_cell? w _ hw298_1)).trans hw298_1), ((HB.out.cell (World.block_lt_of_cell? w _ hw299_0)).trans hw299_0), ((HB.out.cell (World.block_lt_of_cell? w _ hw299_1)).trans hw299_1)⟩ (fun hHeld => ?_); refine with_tabW laws_eqPushS.tab6 laws_eqPushS.bits6 (fun HT_ HW_ => ?_)
   generalize wr.drew = w9 at HB hx298_0 hx298_1 hx299_0 hx299_1 hHeld ⊢
   iterate 8 (first | (refine pz_ HT_ laws_eqPushS.cz0 rfl rfl rfl (v := ?_) (a' := ?_) (by kernel_rfl) (fun _ _ _ h => h) (Or.inl ⟨by rfl, ?_⟩) ?_ ?_; rotate_left; (intro w'; go_simp; with_reducible rfl); rotate_left; (simp only [Act.put, sA, sB, sC, i64_w, i32_w]; rfl)) | (refine tz_ HT_ HW_ laws_eqPushS.cz0 rfl rfl rfl (v := ?_) (a' := ?_) (by kernel_rfl) (fun _ _ _ h => h) (Or.inl ⟨by rfl, ?_⟩) hHeld ?_ ?_; rotate_left; (rintro w' ⟨s0, s1, s2, s3⟩; go_simp; with_reducible rfl); rotate_left; (simp only [Act.put, sA, sB, sC, i64_w, i32_w]; rfl)))
   refine one_ (i := 8) (N := some 25) (bz 10 511) rfl rfl (one_of HT_.out (by kernel_rfl)) (by decide) (fun K hK => ?_)
   refine goes_ Try.func71 (by kernel_rfl) rfl #[.agg #[.int .i64 ((rd_T92 l0 x5_1).f0), .int .i64 ((rd_T92 l0 x5_1).f1)], .agg #[.int .i64 ((rd_T92 l1 x5_1).f0), .int .i64 ((rd_T92 l1 x5_1).f1)]] (by rfl) rfl rfl (by (try simp only [List.map_toArray, List.map_cons, List.map_nil]); first | done | rfl | (simp only [List.length_drop, List.length_take]; rfl)) ?_
   with_reducible refine (laws_eqPush.calls ((rd_T92 l0 x5_1).f0) ((rd_T92 l0 x5_1).f1) ((rd_T92 l1 x5_1).f0) ((rd_T92 l1 x5_1).f1) true _ A7.out).mono ?_
   rintro e w10 ⟨rfl, hb⟩
   refine ⟨_, rfl, ?_⟩
   have n0_ := AZ.mk (pT (by repeat (first | (with_reducible first | exact HB.out | apply pA | apply pN | apply pD) | exact HB.out)) hb)
   clear HB
   have HB := n0_
   clear n0_
   (try clear hb)
   (try clear hb2)
   (try clear hk)
   (try clear hi)
   refine hK.out _ _ ⟨((HB.out.cell (World.block_lt_of_cell? w _ hw298_0)).trans hw298_0), ((HB.out.cell (World.block_lt_of_cell? w _ hw298_1)).trans hw298_1), ((HB.out.cell (World.block_lt_of_cell? w _ hw299_0)).trans hw299_0), ((HB.out.cell (World.block_lt_of_cell? w _ hw299_1)).trans hw299_1)⟩ (fun hHeld => ?_)
   clear hK K
   refine norm_ (a' := ?_) ?_ ?_
   rotate_left
   ·show Act.put _ (some 25) _ = _
    simp only [Act.put, sA, sB, sC, i64_w, i32_w]
    rfl
   refine pure_ (i := 9) (N := some 26) (v := ?_) (a' := ?_) (bz 10 1023) rfl rfl (any_of HT_.out (by kernel_rfl)) (fun _ _ _ h => h) (Or.inl ⟨by rfl, ?_⟩) ?_ ?_
   rotate_left
   ·intro w'
    go_simp
    with_reducible rfl
   rotate_left
   ·simp only [Act.put, sA, sB, sC, i64_w, i32_w]
    rfl
   refine done_ (done_of HT_.out (by kernel_rfl)) ?_
   try go_wp2
   go_roundg k1
   case measure => have := HK1.out; omega
   case rel => exact ⟨(wrap64 (x5_1 + 1)), (by first | rfl | (simp; done) | (simp [*]; done)), H', ⟨by have := HK1.out; omega⟩, ⟨by repeat (first | (with_reducible first | exact HB.out | apply pA | apply pN | apply pD) | exact HB.out)⟩⟩
end Go.Proofs.Ytlmkkmoammgjdaa.P
namespace Go.Proofs.Ytlmkkmoammgjdaa.P
open Go.RowKit Go.Proofs.YtlmkkmoammgjdaaW.PrintWords Go.Proofs.YtlmkkmoammgjdaaW.PrintLast Go.Proofs.YtlmkkmoammgjdaaW.PrintMore
attribute [local go_sem] max2_int min2_int max_two min_two max_three min_three max_four min_four
set_option linter.unusedVariables false
set_option linter.unusedSimpArgs false
def laws_eqPushSS.l0 : Nat → List (List (S92)) → List (List (S92)) → Int → Option (Bool)
 | 0, _, _, _ => none
 | k + 1, x0, x1, x5 => if x5 < (x0.length : Int) then (if 0 ≤ x5 then (if x5 < (x1.length : Int) then ((laws_eqPushS.f k (rd_L9 x0 x5) (rd_L9 x1 x5)).bind fun t303 => (if t303 = true then (laws_eqPushSS.l0 k x0 x1 (wrap64 (x5 + 1))) else (some false))) else (none)) else (none)) else (some true)
def laws_eqPushSS.f (k : Nat) (l0 : List (List (S92))) (l1 : List (List (S92))) : Option (Bool) := if (l0.length : Int) = (l1.length : Int) then (laws_eqPushSS.l0 k l0 l1 0) else (some false)
def laws_eqPushSS.T6 : Bool × List (List Nat × List Nat) := (true, [([], []), ([], []), ([0, 1], [0, 1]), ([2], [2]), ([], []), ([], []), ([4, 5], [4, 5]), ([6], [6]), ([3, 7], [3, 7]), ([8], [8])])
def laws_eqPushSS.B6 : List Nat := [0, 0, 3, 7, 0, 0, 48, 112, 255, 511]
theorem laws_eqPushSS.tab6 : rtab .any (opsOf Try.f35 6) = laws_eqPushSS.T6 := by kernel_rfl
theorem laws_eqPushSS.bits6 : waitsOk laws_eqPushSS.T6.2 laws_eqPushSS.B6 = true := by kernel_rfl
def laws_eqPushSS.cz0 : List Nat := [0, 1, 2, 4, 5, 6, 403, 407]
set_option maxHeartbeats 8000000 in
set_option maxRecDepth 100000 in
theorem laws_eqPushSS.calls (k : Nat) (A0 : Option Addr) (c0 : Nat) (l0 : List (List (S92))) (A1 : Option Addr) (c1 : Nat) (l1 : List (List (S92))) (r : Bool) (w : World) (hr0 : Kd.C (Kd.slice 92 k92) w A0 l0.length l0) (hc0 : l0.length ≤ c0) (hr1 : Kd.C (Kd.slice 92 k92) w A1 l1.length l1) (hc1 : l1.length ≤ c1) (h : laws_eqPushSS.f k l0 l1 = some r) :
  Calls Try.prog 35 #[.slice A0 l0.length c0, .slice A1 l1.length c1] w fun e w' => e = .returned (.bool r) ∧ Below w.heap.size w w' := by
 have HR0 := AZ.mk hr0
 have HC0 := AZ.mk hc0
 clear hr0 hc0
 have HR1 := AZ.mk hr1
 have HC1 := AZ.mk hc1
 clear hr1 hc1
 have HB := AZ.mk (Below.refl w.heap.size w)
 have H : (if (l0.length : Int) = (l1.length : Int) then (laws_eqPushSS.l0 k l0 l1 0) else (some false)) = some r := h
 clear h
 by_cases c3 : (l0.length : Int) = (l1.length : Int)
 rotate_left
 ·rw [if_neg c3] at H
  have c3b0 : ((l0.length : Int) == (l1.length : Int)) = false := beq_eq_false_iff_ne.mpr c3
  have c3b1 : ((l0.length : Int) != (l1.length : Int)) = true := bne_iff_ne.mpr c3
  have c3b2 : (l0.length == l1.length) = false := by first | simpa using c3 | (simp at c3 ⊢; omega)
  obtain rfl := Option.some.inj H
  go_enter Try.func35, Try.ntmps35
  go_wp2
  go_ret
  exact ⟨by first | rfl | (simp [errW_none, errW_some] <;> rfl) | (simp [*, errW_none, errW_some] <;> rfl), by repeat (first | (with_reducible first | exact HB.out | apply pA | apply pN | apply pD) | exact HB.out)⟩
 rw [if_pos c3] at H
 have c3b0 : ((l0.length : Int) == (l1.length : Int)) = true := beq_iff_eq.mpr c3
 have c3b1 : ((l0.length : Int) != (l1.length : Int)) = false := bne_eq_false_iff_eq.mpr c3
 have c3b2 : (l0.length == l1.length) = true := by first | simpa using c3 | (simp at c3 ⊢; omega)
 clear c3
 have H' := AZ.mk H
 clear H
 go_enter Try.func35, Try.ntmps35
 go_wp2
 go_loopg [5] k (fun kq v5 w' => ∃ (x5_1 : Int), v5 = .int .i64 x5_1 ∧ AZ (laws_eqPushSS.l0 kq l0 l1 x5_1 = some r) ∧ AZ (kq ≤ k) ∧ AZ (Below w.heap.size w w'))
 case atStart => exact ⟨(0), (by first | rfl | (simp; done) | (simp [*]; done)), H', ⟨Nat.le_refl _⟩, ⟨by repeat (first | (with_reducible first | exact HB.out | apply pA | apply pN | apply pD) | exact HB.out)⟩⟩
 case round =>
  clear H'
  try clear c1
  try clear p2
  try clear c3
  try clear c3b0
  try clear c3b1
  try clear c3b2
  obtain ⟨x5_1, rfl, HA, HK1, HB⟩ := hrel
  cases gk with
  | zero => exact absurd HA.out (by simp [laws_eqPushSS.l0])
  | succ k1 =>
   have H := HA.out
   clear HA
   simp only [laws_eqPushSS.l0] at H
   by_cases c4 : x5_1 < (l0.length : Int)
   rotate_left
   ·rw [if_neg c4] at H
    have c4b0 : decide (x5_1 < (l0.length : Int)) = false := decide_eq_false c4
    clear c4
    obtain rfl := Option.some.inj H
    go_wp2
    go_ret
    exact ⟨by first | rfl | (simp [errW_none, errW_some] <;> rfl) | (simp [*, errW_none, errW_some] <;> rfl), by repeat (first | (with_reducible first | exact HB.out | apply pA | apply pN | apply pD) | exact HB.out)⟩
   rw [if_pos c4] at H
   have c4b0 : decide (x5_1 < (l0.length : Int)) = true := decide_eq_true c4
   clear c4
   by_cases c5 : 0 ≤ x5_1
   rotate_left
   ·rw [if_neg c5] at H
    exact absurd H (by simp)
   rw [if_pos c5] at H
   have c5b0 : decide (0 ≤ x5_1) = true := decide_eq_true c5
   clear c5
   by_cases c6 : x5_1 < (l1.length : Int)
   rotate_left
   ·rw [if_neg c6] at H
    exact absurd H (by simp)
   rw [if_pos c6] at H
   have c6b0 : decide (x5_1 < (l1.length : Int)) = true := decide_eq_true c6
   clear c6
   replace H := Option.bind_eq_some_iff.mp H
   obtain ⟨t303, A70, H⟩ := H
   replace H : (if t303 = true then (laws_eqPushSS.l0 k1 l0 l1 (wrap64 (x5_1 + 1))) else (some false)) = some r := H
   have A7 := AZ.mk A70
   clear A70
   by_cases c8 : t303 = true
   rotate_left
   ·replace c8 := Bool.eq_false_iff.mpr c8
    subst c8
    have H1 : (some false) = some r := by rw [if_neg (show ¬ (false = true) by decide)] at H; exact H
    clear H
    have H := H1
    clear H1
    obtain rfl := Option.some.inj H
    try go_wp2
    have n0_ := AZ.mk (pD HB.out)
    clear HB
    have HB := n0_
    clear n0_
    have p301 : 0 ≤ (x5_1 : Int) := oT (by first | (with_reducible assumption) | assumption)
    have q301 : x5_1 < (l0.length : Int) := oT (by first | (with_reducible assumption) | assumption)
    obtain ⟨ad301, A301_0, c301_0, e301, hx301_0, hl301_0, hi301_0⟩ := at_L9 HR0.out x5_1 p301 q301
    have hw301_0 := hx301_0
    cases e301
    replace hx301_0 := (HB.out.cell (World.block_lt_of_cell? w _ hx301_0)).trans hx301_0
    have HR301_0 := AZ.mk hi301_0
    have HC301_0 := AZ.mk hl301_0
    clear hi301_0 hl301_0
    replace p301 := eq_true p301
    replace q301 := eq_true q301
    have p302 : 0 ≤ (x5_1 : Int) := oT (by first | (with_reducible assumption) | assumption)
    have q302 : x5_1 < (l1.length : Int) := oT (by first | (with_reducible assumption) | assumption)
    obtain ⟨ad302, A302_0, c302_0, e302, hx302_0, hl302_0, hi302_0⟩ := at_L9 HR1.out x5_1 p302 q302
    have hw302_0 := hx302_0
    cases e302
    replace hx302_0 := (HB.out.cell (World.block_lt_of_cell? w _ hx302_0)).trans hx302_0
    have HR302_0 := AZ.mk hi302_0
    have HC302_0 := AZ.mk hl302_0
    clear hi302_0 hl302_0
    replace p302 := eq_true p302
    replace q302 := eq_true q302
    refine start_ (n := 10) (S := fun w' => w'.cell? (ad301.add (x5_1).toNat) = some (.slice A301_0 (rd_L9 l0 x5_1).length c301_0) ∧ w'.cell? (ad302.add (x5_1).toNat) = some (.slice A302_0 (rd_L9 l1 x5_1).length c302_0)) (ds := []) (bz 10 0) (by kernel_rfl) rfl rfl ⟨((HB.out.cell (World.block_lt_of_cell? w _ hw301_0)).trans hw301_0), ((HB.out.cell (World.block_lt_of_cell? w _ hw302_0)).trans hw302_0)⟩ (fun hHeld => ?_); refine with_tabW laws_eqPushSS.tab6 laws_eqPushSS.bits6 (fun HT_ HW_ => ?_)
    generalize wr.drew = w11 at HB HR301_0 HR302_0 hx301_0 hx302_0 hHeld ⊢
    iterate 8 (first | (refine pz_ HT_ laws_eqPushSS.cz0 rfl rfl rfl (v := ?_) (a' := ?_) (by kernel_rfl) (fun _ _ _ h => h) (Or.inl ⟨by rfl, ?_⟩) ?_ ?_; rotate_left; (intro w'; go_simp; with_reducible rfl); rotate_left; (simp only [Act.put, sA, sB, sC, i64_w, i32_w]; rfl)) | (refine tz_ HT_ HW_ laws_eqPushSS.cz0 rfl rfl rfl (v := ?_) (a' := ?_) (by kernel_rfl) (fun _ _ _ h => h) (Or.inl ⟨by rfl, ?_⟩) hHeld ?_ ?_; rotate_left; (rintro w' ⟨s0, s1⟩; go_simp; with_reducible rfl); rotate_left; (simp only [Act.put, sA, sB, sC, i64_w, i32_w]; rfl)))
    refine one_ (i := 8) (N := some 25) (bz 10 511) rfl rfl (one_of HT_.out (by kernel_rfl)) (by decide) (fun K hK => ?_)
    refine goes_ Try.func62 (by kernel_rfl) rfl #[.slice A301_0 (rd_L9 l0 x5_1).length c301_0, .slice A302_0 (rd_L9 l1 x5_1).length c302_0] (by rfl) rfl rfl (by (try simp only [List.map_toArray, List.map_cons, List.map_nil]); first | done | rfl | (simp only [List.length_drop, List.length_take]; rfl)) ?_
    with_reducible refine (laws_eqPushS.calls k1 _ _ (rd_L9 l0 x5_1) _ _ (rd_L9 l1 x5_1) false _ ?side1 ?side2 ?side3 ?side4 A7.out).mono ?_
    (case side1 => repeat (first | exact (Kd.C_below HR301_0.out HB.out) | (with_reducible refine Kd.C_alloc ?_ _) | (with_reducible refine Kd.C_drewN ?_ _) | (with_reducible refine Kd.C_drew ?_)))
    (case side2 => exact HC301_0.out)
    (case side3 => repeat (first | exact (Kd.C_below HR302_0.out HB.out) | (with_reducible refine Kd.C_alloc ?_ _) | (with_reducible refine Kd.C_drewN ?_ _) | (with_reducible refine Kd.C_drew ?_)))
    (case side4 => exact HC302_0.out)
    rintro e w12 ⟨rfl, hb⟩
    refine ⟨_, rfl, ?_⟩
    have n0_ := AZ.mk (pT (by repeat (first | (with_reducible first | exact HB.out | apply pA | apply pN | apply pD) | exact HB.out)) hb)
    clear HB
    have HB := n0_
    clear n0_
    (try clear hb)
    (try clear hb2)
    (try clear hk)
    (try clear hi)
    refine hK.out _ _ ⟨((HB.out.cell (World.block_lt_of_cell? w _ hw301_0)).trans hw301_0), ((HB.out.cell (World.block_lt_of_cell? w _ hw302_0)).trans hw302_0)⟩ (fun hHeld => ?_)
    clear hK K
    refine norm_ (a' := ?_) ?_ ?_
    rotate_left
    ·show Act.put _ (some 25) _ = _
     simp only [Act.put, sA, sB, sC, i64_w, i32_w]
     rfl
    refine pure_ (i := 9) (N := some 26) (v := ?_) (a' := ?_) (bz 10 1023) rfl rfl (any_of HT_.out (by kernel_rfl)) (fun _ _ _ h => h) (Or.inl ⟨by rfl, ?_⟩) ?_ ?_
    rotate_left
    ·intro w'
     go_simp
     with_reducible rfl
    rotate_left
    ·simp only [Act.put, sA, sB, sC, i64_w, i32_w]
     rfl
    refine done_ (done_of HT_.out (by kernel_rfl)) ?_
    try go_wp2
    go_ret
    exact ⟨by first | rfl | (simp [errW_none, errW_some] <;> rfl) | (simp [*, errW_none, errW_some] <;> rfl), by repeat (first | (with_reducible first | exact HB.out | apply pA | apply pN | apply pD) | exact HB.out)⟩
   subst c8
   have H1 : (laws_eqPushSS.l0 k1 l0 l1 (wrap64 (x5_1 + 1))) = some r := by rw [if_pos rfl] at H; exact H
   clear H
   have H := H1
   clear H1
   have H' := AZ.mk H
   clear H
   try go_wp2
   have n0_ := AZ.mk (pD HB.out)
   clear HB
   have HB := n0_
   clear n0_
   have p301 : 0 ≤ (x5_1 : Int) := oT (by first | (with_reducible assumption) | assumption)
   have q301 : x5_1 < (l0.length : Int) := oT (by first | (with_reducible assumption) | assumption)
   obtain ⟨ad301, A301_0, c301_0, e301, hx301_0, hl301_0, hi301_0⟩ := at_L9 HR0.out x5_1 p301 q301
   have hw301_0 := hx301_0
   cases e301
   replace hx301_0 := (HB.out.cell (World.block_lt_of_cell? w _ hx301_0)).trans hx301_0
   have HR301_0 := AZ.mk hi301_0
   have HC301_0 := AZ.mk hl301_0
   clear hi301_0 hl301_0
   replace p301 := eq_true p301
   replace q301 := eq_true q301
   have p302 : 0 ≤ (x5_1 : Int) := oT (by first | (with_reducible assumption) | assumption)
   have q302 : x5_1 < (l1.length : Int) := oT (by first | (with_reducible assumption) | assumption)
   obtain ⟨ad302, A302_0, c302_0, e302, hx302_0, hl302_0, hi302_0⟩ := at_L9 HR1.out x5_1 p302 q302
   have hw302_0 := hx302_0
   cases e302
   replace hx302_0 := (HB.out.cell (World.block_lt_of_cell? w _ hx302_0)).trans hx302_0
   have HR302_0 := AZ.mk hi302_0
   have HC302_0 := AZ.mk hl302_0
   clear hi302_0 hl302_0
   replace p302 := eq_true p302
   replace q302 := eq_true q302
   refine start_ (n := 10) (S := fun w' => w'.cell? (ad301.add (x5_1).toNat) = some (.slice A301_0 (rd_L9 l0 x5_1).length c301_0) ∧ w'.cell? (ad302.add (x5_1).toNat) = some (.slice A302_0 (rd_L9 l1 x5_1).length c302_0)) (ds := []) (bz 10 0) (by kernel_rfl) rfl rfl ⟨((HB.out.cell (World.block_lt_of_cell? w _ hw301_0)).trans hw301_0), ((HB.out.cell (World.block_lt_of_cell? w _ hw302_0)).trans hw302_0)⟩ (fun hHeld => ?_); refine with_tabW laws_eqPushSS.tab6 laws_eqPushSS.bits6 (fun HT_ HW_ => ?_)
   generalize wr.drew = w9 at HB HR301_0 HR302_0 hx301_0 hx302_0 hHeld ⊢
   iterate 8 (first | (refine pz_ HT_ laws_eqPushSS.cz0 rfl rfl rfl (v := ?_) (a' := ?_) (by kernel_rfl) (fun _ _ _ h => h) (Or.inl ⟨by rfl, ?_⟩) ?_ ?_; rotate_left; (intro w'; go_simp; with_reducible rfl); rotate_left; (simp only [Act.put, sA, sB, sC, i64_w, i32_w]; rfl)) | (refine tz_ HT_ HW_ laws_eqPushSS.cz0 rfl rfl rfl (v := ?_) (a' := ?_) (by kernel_rfl) (fun _ _ _ h => h) (Or.inl ⟨by rfl, ?_⟩) hHeld ?_ ?_; rotate_left; (rintro w' ⟨s0, s1⟩; go_simp; with_reducible rfl); rotate_left; (simp only [Act.put, sA, sB, sC, i64_w, i32_w]; rfl)))
   refine one_ (i := 8) (N := some 25) (bz 10 511) rfl rfl (one_of HT_.out (by kernel_rfl)) (by decide) (fun K hK => ?_)
   refine goes_ Try.func62 (by kernel_rfl) rfl #[.slice A301_0 (rd_L9 l0 x5_1).length c301_0, .slice A302_0 (rd_L9 l1 x5_1).length c302_0] (by rfl) rfl rfl (by (try simp only [List.map_toArray, List.map_cons, List.map_nil]); first | done | rfl | (simp only [List.length_drop, List.length_take]; rfl)) ?_
   with_reducible refine (laws_eqPushS.calls k1 _ _ (rd_L9 l0 x5_1) _ _ (rd_L9 l1 x5_1) true _ ?side1 ?side2 ?side3 ?side4 A7.out).mono ?_
   (case side1 => repeat (first | exact (Kd.C_below HR301_0.out HB.out) | (with_reducible refine Kd.C_alloc ?_ _) | (with_reducible refine Kd.C_drewN ?_ _) | (with_reducible refine Kd.C_drew ?_)))
   (case side2 => exact HC301_0.out)
   (case side3 => repeat (first | exact (Kd.C_below HR302_0.out HB.out) | (with_reducible refine Kd.C_alloc ?_ _) | (with_reducible refine Kd.C_drewN ?_ _) | (with_reducible refine Kd.C_drew ?_)))
   (case side4 => exact HC302_0.out)
   rintro e w10 ⟨rfl, hb⟩
   refine ⟨_, rfl, ?_⟩
   have n0_ := AZ.mk (pT (by repeat (first | (with_reducible first | exact HB.out | apply pA | apply pN | apply pD) | exact HB.out)) hb)
   clear HB
   have HB := n0_
   clear n0_
   (try clear hb)
   (try clear hb2)
   (try clear hk)
   (try clear hi)
   refine hK.out _ _ ⟨((HB.out.cell (World.block_lt_of_cell? w _ hw301_0)).trans hw301_0), ((HB.out.cell (World.block_lt_of_cell? w _ hw302_0)).trans hw302_0)⟩ (fun hHeld => ?_)
   clear hK K
   refine norm_ (a' := ?_) ?_ ?_
   rotate_left
   ·show Act.put _ (some 25) _ = _
    simp only [Act.put, sA, sB, sC, i64_w, i32_w]
    rfl
   refine pure_ (i := 9) (N := some 26) (v := ?_) (a' := ?_) (bz 10 1023) rfl rfl (any_of HT_.out (by kernel_rfl)) (fun _ _ _ h => h) (Or.inl ⟨by rfl, ?_⟩) ?_ ?_
   rotate_left
   ·intro w'
    go_simp
    with_reducible rfl
   rotate_left
   ·simp only [Act.put, sA, sB, sC, i64_w, i32_w]
    rfl
   refine done_ (done_of HT_.out (by kernel_rfl)) ?_
   try go_wp2
   go_roundg k1
   case measure => have := HK1.out; omega
   case rel => exact ⟨(wrap64 (x5_1 + 1)), (by first | rfl | (simp; done) | (simp [*]; done)), H', ⟨by have := HK1.out; omega⟩, ⟨by repeat (first | (with_reducible first | exact HB.out | apply pA | apply pN | apply pD) | exact HB.out)⟩⟩
end Go.Proofs.Ytlmkkmoammgjdaa.P
namespace Go.Proofs.Ytlmkkmoammgjdaa.P
open Go.RowKit Go.Proofs.YtlmkkmoammgjdaaW.PrintWords Go.Proofs.YtlmkkmoammgjdaaW.PrintLast Go.Proofs.YtlmkkmoammgjdaaW.PrintMore
attribute [local go_sem] max2_int min2_int max_two min_two max_three min_three max_four min_four
set_option linter.unusedVariables false
set_option linter.unusedSimpArgs false
def laws_eqInt64S.l0 : Nat → List Int → List Int → Int → Option (Bool)
 | 0, _, _, _ => none
 | k + 1, x0, x1, x5 => if x5 < (x0.length : Int) then (if 0 ≤ x5 then (if x5 < (x1.length : Int) then (if (rd x0 x5) = (rd x1 x5) then (laws_eqInt64S.l0 k x0 x1 (wrap64 (x5 + 1))) else (some false)) else (none)) else (none)) else (some true)
def laws_eqInt64S.f (k : Nat) (l0 : List Int) (l1 : List Int) : Option (Bool) := if (l0.length : Int) = (l1.length : Int) then (laws_eqInt64S.l0 k l0 l1 0) else (some false)
set_option maxHeartbeats 8000000 in
set_option maxRecDepth 100000 in
theorem laws_eqInt64S.calls (k : Nat) (A0 : Option Addr) (c0 : Nat) (l0 : List Int) (A1 : Option Addr) (c1 : Nat) (l1 : List Int) (r : Bool) (w : World) (hr0 : Kd.C (Kd.int .i64) w A0 l0.length l0) (hc0 : l0.length ≤ c0) (hr1 : Kd.C (Kd.int .i64) w A1 l1.length l1) (hc1 : l1.length ≤ c1) (h : laws_eqInt64S.f k l0 l1 = some r) :
  Calls Try.prog 63 #[.slice A0 l0.length c0, .slice A1 l1.length c1] w fun e w' => e = .returned (.bool r) ∧ Drawn0 w w' := by
 have HR0 := AZ.mk hr0
 have HC0 := AZ.mk hc0
 clear hr0 hc0
 have HR1 := AZ.mk hr1
 have HC1 := AZ.mk hc1
 clear hr1 hc1
 have H : (if (l0.length : Int) = (l1.length : Int) then (laws_eqInt64S.l0 k l0 l1 0) else (some false)) = some r := h
 clear h
 by_cases c3 : (l0.length : Int) = (l1.length : Int)
 rotate_left
 ·rw [if_neg c3] at H
  have c3b0 : ((l0.length : Int) == (l1.length : Int)) = false := beq_eq_false_iff_ne.mpr c3
  have c3b1 : ((l0.length : Int) != (l1.length : Int)) = true := bne_iff_ne.mpr c3
  have c3b2 : (l0.length == l1.length) = false := by first | simpa using c3 | (simp at c3 ⊢; omega)
  obtain rfl := Option.some.inj H
  go_enter Try.func63, Try.ntmps63
  go_wp2
  repeat (go_quiet (fail); try go_wp2)
  go_ret
  exact ⟨by first | rfl | (simp; done) | (simp [*]; done), by repeat (first | exact Drawn0.refl _ | apply Drawn0.step)⟩
 rw [if_pos c3] at H
 have c3b0 : ((l0.length : Int) == (l1.length : Int)) = true := beq_iff_eq.mpr c3
 have c3b1 : ((l0.length : Int) != (l1.length : Int)) = false := bne_eq_false_iff_eq.mpr c3
 have c3b2 : (l0.length == l1.length) = true := by first | simpa using c3 | (simp at c3 ⊢; omega)
 clear c3
 have H' := AZ.mk H
 clear H
 go_enter Try.func63, Try.ntmps63
 go_wp2
 repeat (go_quiet (fail); try go_wp2)
 go_loopg [5] k (fun kq v5 w' => ∃ (x5_1 : Int), v5 = .int .i64 x5_1 ∧ AZ (laws_eqInt64S.l0 kq l0 l1 x5_1 = some r) ∧ AZ (kq ≤ k) ∧ Drawn0 w w')
 case atStart => exact ⟨(0), (by first | rfl | (simp; done) | (simp [*]; done)), H', ⟨Nat.le_refl _⟩, by repeat (first | exact Drawn0.refl _ | apply Drawn0.step)⟩
 case round =>
  clear H'
  try clear c1
  try clear p2
  try clear c3
  try clear c3b0
  try clear c3b1
  try clear c3b2
  obtain ⟨x5_1, rfl, HA, HK1, ⟨m1, rfl⟩⟩ := hrel
  cases gk with
  | zero => exact absurd HA.out (by simp [laws_eqInt64S.l0])
  | succ k1 =>
   have H := HA.out
   clear HA
   simp only [laws_eqInt64S.l0] at H
   by_cases c4 : x5_1 < (l0.length : Int)
   rotate_left
   ·rw [if_neg c4] at H
    have c4b0 : decide (x5_1 < (l0.length : Int)) = false := decide_eq_false c4
    clear c4
    obtain rfl := Option.some.inj H
    go_wp2
    repeat (go_quiet (fail); try go_wp2)
    go_ret
    exact ⟨by first | rfl | (simp; done) | (simp [*]; done), by repeat (first | exact Drawn0.refl _ | apply Drawn0.step)⟩
   rw [if_pos c4] at H
   have c4b0 : decide (x5_1 < (l0.length : Int)) = true := decide_eq_true c4
   clear c4
   by_cases c5 : 0 ≤ x5_1
   rotate_left
   ·rw [if_neg c5] at H
    exact absurd H (by simp)
   rw [if_pos c5] at H
   have c5b0 : decide (0 ≤ x5_1) = true := decide_eq_true c5
   clear c5
   by_cases c6 : x5_1 < (l1.length : Int)
   rotate_left
   ·rw [if_neg c6] at H
    exact absurd H (by simp)
   rw [if_pos c6] at H
   have c6b0 : decide (x5_1 < (l1.length : Int)) = true := decide_eq_true c6
   clear c6
   by_cases c7 : (rd l0 x5_1) = (rd l1 x5_1)
   rotate_left
   ·rw [if_neg c7] at H
    have c7b0 : ((rd l0 x5_1) == (rd l1 x5_1)) = false := beq_eq_false_iff_ne.mpr c7
    have c7b1 : ((rd l0 x5_1) != (rd l1 x5_1)) = true := bne_iff_ne.mpr c7
    obtain rfl := Option.some.inj H
    have p304 : 0 ≤ (x5_1 : Int) := oT (by first | (with_reducible assumption) | assumption)
    have q304 : x5_1 < (l0.length : Int) := oT (by first | (with_reducible assumption) | assumption)
    obtain ⟨ad304, e304, hx304_0⟩ := Kd.at_int HR0.out x5_1 p304 q304
    cases e304
    replace p304 := eq_true p304
    replace q304 := eq_true q304
    have p305 : 0 ≤ (x5_1 : Int) := oT (by first | (with_reducible assumption) | assumption)
    have q305 : x5_1 < (l1.length : Int) := oT (by first | (with_reducible assumption) | assumption)
    obtain ⟨ad305, e305, hx305_0⟩ := Kd.at_int HR1.out x5_1 p305 q305
    cases e305
    replace p305 := eq_true p305
    replace q305 := eq_true q305
    go_wp2
    repeat (go_quiet (fail); try go_wp2)
    go_ret
    exact ⟨by first | rfl | (simp; done) | (simp [*]; done), by repeat (first | exact Drawn0.refl _ | apply Drawn0.step)⟩
   rw [if_pos c7] at H
   have c7b0 : ((rd l0 x5_1) == (rd l1 x5_1)) = true := beq_iff_eq.mpr c7
   have c7b1 : ((rd l0 x5_1) != (rd l1 x5_1)) = false := bne_eq_false_iff_eq.mpr c7
   clear c7
   have H' := AZ.mk H
   clear H
   have p304 : 0 ≤ (x5_1 : Int) := oT (by first | (with_reducible assumption) | assumption)
   have q304 : x5_1 < (l0.length : Int) := oT (by first | (with_reducible assumption) | assumption)
   obtain ⟨ad304, e304, hx304_0⟩ := Kd.at_int HR0.out x5_1 p304 q304
   cases e304
   replace p304 := eq_true p304
   replace q304 := eq_true q304
   have p305 : 0 ≤ (x5_1 : Int) := oT (by first | (with_reducible assumption) | assumption)
   have q305 : x5_1 < (l1.length : Int) := oT (by first | (with_reducible assumption) | assumption)
   obtain ⟨ad305, e305, hx305_0⟩ := Kd.at_int HR1.out x5_1 p305 q305
   cases e305
   replace p305 := eq_true p305
   replace q305 := eq_true q305
   go_wp2
   repeat (go_quiet (fail); try go_wp2)
   go_roundg k1
   case measure => have := HK1.out; omega
   case rel => exact ⟨(wrap64 (x5_1 + 1)), (by first | rfl | (simp; done) | (simp [*]; done)), H', ⟨by have := HK1.out; omega⟩, by repeat (first | exact Drawn0.refl _ | apply Drawn0.step)⟩
end Go.Proofs.Ytlmkkmoammgjdaa.P
namespace Go.Proofs.Ytlmkkmoammgjdaa.P
open Go.RowKit Go.Proofs.YtlmkkmoammgjdaaW.PrintWords Go.Proofs.YtlmkkmoammgjdaaW.PrintLast Go.Proofs.YtlmkkmoammgjdaaW.PrintMore
attribute [local go_sem] max2_int min2_int max_two min_two max_three min_three max_four min_four
set_option linter.unusedVariables false
set_option linter.unusedSimpArgs false
def laws_eqInt64SS.l0 : Nat → List (List Int) → List (List Int) → Int → Option (Bool)
 | 0, _, _, _ => none
 | k + 1, x0, x1, x5 => if x5 < (x0.length : Int) then (if 0 ≤ x5 then (if x5 < (x1.length : Int) then ((laws_eqInt64S.f k (rd_L6 x0 x5) (rd_L6 x1 x5)).bind fun t308 => (if t308 = true then (laws_eqInt64SS.l0 k x0 x1 (wrap64 (x5 + 1))) else (some false))) else (none)) else (none)) else (some true)
def laws_eqInt64SS.f (k : Nat) (l0 : List (List Int)) (l1 : List (List Int)) : Option (Bool) := if (l0.length : Int) = (l1.length : Int) then (laws_eqInt64SS.l0 k l0 l1 0) else (some false)
set_option maxHeartbeats 8000000 in
set_option maxRecDepth 100000 in
theorem laws_eqInt64SS.calls (k : Nat) (A0 : Option Addr) (c0 : Nat) (l0 : List (List Int)) (A1 : Option Addr) (c1 : Nat) (l1 : List (List Int)) (r : Bool) (w : World) (hr0 : Kd.C (Kd.slice 2 (Kd.int .i64)) w A0 l0.length l0) (hc0 : l0.length ≤ c0) (hr1 : Kd.C (Kd.slice 2 (Kd.int .i64)) w A1 l1.length l1) (hc1 : l1.length ≤ c1) (h : laws_eqInt64SS.f k l0 l1 = some r) :
  Calls Try.prog 37 #[.slice A0 l0.length c0, .slice A1 l1.length c1] w fun e w' => e = .returned (.bool r) ∧ Drawn0 w w' := by
 have HR0 := AZ.mk hr0
 have HC0 := AZ.mk hc0
 clear hr0 hc0
 have HR1 := AZ.mk hr1
 have HC1 := AZ.mk hc1
 clear hr1 hc1
 have H : (if (l0.length : Int) = (l1.length : Int) then (laws_eqInt64SS.l0 k l0 l1 0) else (some false)) = some r := h
 clear h
 by_cases c3 : (l0.length : Int) = (l1.length : Int)
 rotate_left
 ·rw [if_neg c3] at H
  have c3b0 : ((l0.length : Int) == (l1.length : Int)) = false := beq_eq_false_iff_ne.mpr c3
  have c3b1 : ((l0.length : Int) != (l1.length : Int)) = true := bne_iff_ne.mpr c3
  have c3b2 : (l0.length == l1.length) = false := by first | simpa using c3 | (simp at c3 ⊢; omega)
  obtain rfl := Option.some.inj H
  go_enter Try.func37, Try.ntmps37
  go_wp2
  repeat (go_quiet (fail); try go_wp2)
  go_ret
  exact ⟨by first | rfl | (simp; done) | (simp [*]; done), by repeat (first | exact Drawn0.refl _ | apply Drawn0.step)⟩
 rw [if_pos c3] at H
 have c3b0 : ((l0.length : Int) == (l1.length : Int)) = true := beq_iff_eq.mpr c3
 have c3b1 : ((l0.length : Int) != (l1.length : Int)) = false := bne_eq_false_iff_eq.mpr c3
 have c3b2 : (l0.length == l1.length) = true := by first | simpa using c3 | (simp at c3 ⊢; omega)
 clear c3
 have H' := AZ.mk H
 clear H
 go_enter Try.func37, Try.ntmps37
 go_wp2
 repeat (go_quiet (fail); try go_wp2)
 go_loopg [5] k (fun kq v5 w' => ∃ (x5_1 : Int), v5 = .int .i64 x5_1 ∧ AZ (laws_eqInt64SS.l0 kq l0 l1 x5_1 = some r) ∧ AZ (kq ≤ k) ∧ Drawn0 w w')
 case atStart => exact ⟨(0), (by first | rfl | (simp; done) | (simp [*]; done)), H', ⟨Nat.le_refl _⟩, by repeat (first | exact Drawn0.refl _ | apply Drawn0.step)⟩
 case round =>
  clear H'
  try clear c1
  try clear p2
  try clear c3
  try clear c3b0
  try clear c3b1
  try clear c3b2
  obtain ⟨x5_1, rfl, HA, HK1, ⟨m1, rfl⟩⟩ := hrel
  cases gk with
  | zero => exact absurd HA.out (by simp [laws_eqInt64SS.l0])
  | succ k1 =>
   have H := HA.out
   clear HA
   simp only [laws_eqInt64SS.l0] at H
   by_cases c4 : x5_1 < (l0.length : Int)
   rotate_left
   ·rw [if_neg c4] at H
    have c4b0 : decide (x5_1 < (l0.length : Int)) = false := decide_eq_false c4
    clear c4
    obtain rfl := Option.some.inj H
    go_wp2
    repeat (go_quiet (fail); try go_wp2)
    go_ret
    exact ⟨by first | rfl | (simp; done) | (simp [*]; done), by repeat (first | exact Drawn0.refl _ | apply Drawn0.step)⟩
   rw [if_pos c4] at H
   have c4b0 : decide (x5_1 < (l0.length : Int)) = true := decide_eq_true c4
   clear c4
   by_cases c5 : 0 ≤ x5_1
   rotate_left
   ·rw [if_neg c5] at H
    exact absurd H (by simp)
   rw [if_pos c5] at H
   have c5b0 : decide (0 ≤ x5_1) = true := decide_eq_true c5
   clear c5
   by_cases c6 : x5_1 < (l1.length : Int)
   rotate_left
   ·rw [if_neg c6] at H
    exact absurd H (by simp)
   rw [if_pos c6] at H
   have c6b0 : decide (x5_1 < (l1.length : Int)) = true := decide_eq_true c6
   clear c6
   replace H := Option.bind_eq_some_iff.mp H
   obtain ⟨t308, A70, H⟩ := H
   replace H : (if t308 = true then (laws_eqInt64SS.l0 k1 l0 l1 (wrap64 (x5_1 + 1))) else (some false)) = some r := H
   have A7 := AZ.mk A70
   clear A70
   by_cases c8 : t308 = true
   rotate_left
   ·replace c8 := Bool.eq_false_iff.mpr c8
    subst c8
    have H1 : (some false) = some r := by rw [if_neg (show ¬ (false = true) by decide)] at H; exact H
    clear H
    have H := H1
    clear H1
    obtain rfl := Option.some.inj H
    have p306 : 0 ≤ (x5_1 : Int) := oT (by first | (with_reducible assumption) | assumption)
    have q306 : x5_1 < (l0.length : Int) := oT (by first | (with_reducible assumption) | assumption)
    obtain ⟨ad306, A306_0, c306_0, e306, hx306_0, hl306_0, hi306_0⟩ := at_L6 HR0.out x5_1 p306 q306
    cases e306
    have HR306_0 := AZ.mk hi306_0
    have HC306_0 := AZ.mk hl306_0
    clear hi306_0 hl306_0
    replace p306 := eq_true p306
    replace q306 := eq_true q306
    have p307 : 0 ≤ (x5_1 : Int) := oT (by first | (with_reducible assumption) | assumption)
    have q307 : x5_1 < (l1.length : Int) := oT (by first | (with_reducible assumption) | assumption)
    obtain ⟨ad307, A307_0, c307_0, e307, hx307_0, hl307_0, hi307_0⟩ := at_L6 HR1.out x5_1 p307 q307
    cases e307
    have HR307_0 := AZ.mk hi307_0
    have HC307_0 := AZ.mk hl307_0
    clear hi307_0 hl307_0
    replace p307 := eq_true p307
    replace q307 := eq_true q307
    go_wp2_with (first | (go_at_call 63; (with_reducible refine (laws_eqInt64S.calls k1 _ _ (rd_L6 l0 x5_1) _ _ (rd_L6 l1 x5_1) false _ ?side1 ?side2 ?side3 ?side4 A7.out).mono ?_); (case side1 => repeat (first | exact HR306_0.out | (with_reducible refine Kd.C_alloc ?_ _) | (with_reducible refine Kd.C_drewN ?_ _) | (with_reducible refine Kd.C_drew ?_))); (case side2 => exact HC306_0.out); (case side3 => repeat (first | exact HR307_0.out | (with_reducible refine Kd.C_alloc ?_ _) | (with_reducible refine Kd.C_drewN ?_ _) | (with_reducible refine Kd.C_drew ?_))); (case side4 => exact HC307_0.out); rintro e w' ⟨rfl, ⟨nd, rfl⟩⟩; (try first | exact ⟨rfl, _, World.drewN_drewN _ _ _⟩ | exact ⟨rfl, _, Eq.trans (World.drewN_drewN _ _ _) (congrArg (World.drewN _) (Nat.add_assoc _ _ _))⟩)))
    repeat (go_quiet (first | (go_at_call 63; (with_reducible refine (laws_eqInt64S.calls k1 _ _ (rd_L6 l0 x5_1) _ _ (rd_L6 l1 x5_1) false _ ?side1 ?side2 ?side3 ?side4 A7.out).mono ?_); (case side1 => repeat (first | exact HR306_0.out | (with_reducible refine Kd.C_alloc ?_ _) | (with_reducible refine Kd.C_drewN ?_ _) | (with_reducible refine Kd.C_drew ?_))); (case side2 => exact HC306_0.out); (case side3 => repeat (first | exact HR307_0.out | (with_reducible refine Kd.C_alloc ?_ _) | (with_reducible refine Kd.C_drewN ?_ _) | (with_reducible refine Kd.C_drew ?_))); (case side4 => exact HC307_0.out); rintro e w' ⟨rfl, ⟨nd, rfl⟩⟩; (try first | exact ⟨rfl, _, World.drewN_drewN _ _ _⟩ | exact ⟨rfl, _, Eq.trans (World.drewN_drewN _ _ _) (congrArg (World.drewN _) (Nat.add_assoc _ _ _))⟩))); try go_wp2_with (first | (go_at_call 63; (with_reducible refine (laws_eqInt64S.calls k1 _ _ (rd_L6 l0 x5_1) _ _ (rd_L6 l1 x5_1) false _ ?side1 ?side2 ?side3 ?side4 A7.out).mono ?_); (case side1 => repeat (first | exact HR306_0.out | (with_reducible refine Kd.C_alloc ?_ _) | (with_reducible refine Kd.C_drewN ?_ _) | (with_reducible refine Kd.C_drew ?_))); (case side2 => exact HC306_0.out); (case side3 => repeat (first | exact HR307_0.out | (with_reducible refine Kd.C_alloc ?_ _) | (with_reducible refine Kd.C_drewN ?_ _) | (with_reducible refine Kd.C_drew ?_))); (case side4 => exact HC307_0.out); rintro e w' ⟨rfl, ⟨nd, rfl⟩⟩; (try first | exact ⟨rfl, _, World.drewN_drewN _ _ _⟩ | exact ⟨rfl, _, Eq.trans (World.drewN_drewN _ _ _) (congrArg (World.drewN _) (Nat.add_assoc _ _ _))⟩))))
    go_ret
    exact ⟨by first | rfl | (simp; done) | (simp [*]; done), by repeat (first | exact Drawn0.refl _ | apply Drawn0.step)⟩
   subst c8
   have H1 : (laws_eqInt64SS.l0 k1 l0 l1 (wrap64 (x5_1 + 1))) = some r := by rw [if_pos rfl] at H; exact H
   clear H
   have H := H1
   clear H1
   have H' := AZ.mk H
   clear H
   have p306 : 0 ≤ (x5_1 : Int) := oT (by first | (with_reducible assumption) | assumption)
   have q306 : x5_1 < (l0.length : Int) := oT (by first | (with_reducible assumption) | assumption)
   obtain ⟨ad306, A306_0, c306_0, e306, hx306_0, hl306_0, hi306_0⟩ := at_L6 HR0.out x5_1 p306 q306
   cases e306
   have HR306_0 := AZ.mk hi306_0
   have HC306_0 := AZ.mk hl306_0
   clear hi306_0 hl306_0
   replace p306 := eq_true p306
   replace q306 := eq_true q306
   have p307 : 0 ≤ (x5_1 : Int) := oT (by first | (with_reducible assumption) | assumption)
   have q307 : x5_1 < (l1.length : Int) := oT (by first | (with_reducible assumption) | assumption)
   obtain ⟨ad307, A307_0, c307_0, e307, hx307_0, hl307_0, hi307_0⟩ := at_L6 HR1.out x5_1 p307 q307
   cases e307
   have HR307_0 := AZ.mk hi307_0
   have HC307_0 := AZ.mk hl307_0
   clear hi307_0 hl307_0
   replace p307 := eq_true p307
   replace q307 := eq_true q307
   go_wp2_with (first | (go_at_call 63; (with_reducible refine (laws_eqInt64S.calls k1 _ _ (rd_L6 l0 x5_1) _ _ (rd_L6 l1 x5_1) true _ ?side1 ?side2 ?side3 ?side4 A7.out).mono ?_); (case side1 => repeat (first | exact HR306_0.out | (with_reducible refine Kd.C_alloc ?_ _) | (with_reducible refine Kd.C_drewN ?_ _) | (with_reducible refine Kd.C_drew ?_))); (case side2 => exact HC306_0.out); (case side3 => repeat (first | exact HR307_0.out | (with_reducible refine Kd.C_alloc ?_ _) | (with_reducible refine Kd.C_drewN ?_ _) | (with_reducible refine Kd.C_drew ?_))); (case side4 => exact HC307_0.out); rintro e w' ⟨rfl, ⟨nd, rfl⟩⟩; (try first | exact ⟨rfl, _, World.drewN_drewN _ _ _⟩ | exact ⟨rfl, _, Eq.trans (World.drewN_drewN _ _ _) (congrArg (World.drewN _) (Nat.add_assoc _ _ _))⟩)))
   repeat (go_quiet (first | (go_at_call 63; (with_reducible refine (laws_eqInt64S.calls k1 _ _ (rd_L6 l0 x5_1) _ _ (rd_L6 l1 x5_1) true _ ?side1 ?side2 ?side3 ?side4 A7.out).mono ?_); (case side1 => repeat (first | exact HR306_0.out | (with_reducible refine Kd.C_alloc ?_ _) | (with_reducible refine Kd.C_drewN ?_ _) | (with_reducible refine Kd.C_drew ?_))); (case side2 => exact HC306_0.out); (case side3 => repeat (first | exact HR307_0.out | (with_reducible refine Kd.C_alloc ?_ _) | (with_reducible refine Kd.C_drewN ?_ _) | (with_reducible refine Kd.C_drew ?_))); (case side4 => exact HC307_0.out); rintro e w' ⟨rfl, ⟨nd, rfl⟩⟩; (try first | exact ⟨rfl, _, World.drewN_drewN _ _ _⟩ | exact ⟨rfl, _, Eq.trans (World.drewN_drewN _ _ _) (congrArg (World.drewN _) (Nat.add_assoc _ _ _))⟩))); try go_wp2_with (first | (go_at_call 63; (with_reducible refine (laws_eqInt64S.calls k1 _ _ (rd_L6 l0 x5_1) _ _ (rd_L6 l1 x5_1) true _ ?side1 ?side2 ?side3 ?side4 A7.out).mono ?_); (case side1 => repeat (first | exact HR306_0.out | (with_reducible refine Kd.C_alloc ?_ _) | (with_reducible refine Kd.C_drewN ?_ _) | (with_reducible refine Kd.C_drew ?_))); (case side2 => exact HC306_0.out); (case side3 => repeat (first | exact HR307_0.out | (with_reducible refine Kd.C_alloc ?_ _) | (with_reducible refine Kd.C_drewN ?_ _) | (with_reducible refine Kd.C_drew ?_))); (case side4 => exact HC307_0.out); rintro e w' ⟨rfl, ⟨nd, rfl⟩⟩; (try first | exact ⟨rfl, _, World.drewN_drewN _ _ _⟩ | exact ⟨rfl, _, Eq.trans (World.drewN_drewN _ _ _) (congrArg (World.drewN _) (Nat.add_assoc _ _ _))⟩))))
   go_roundg k1
   case measure => have := HK1.out; omega
   case rel => exact ⟨(wrap64 (x5_1 + 1)), (by first | rfl | (simp; done) | (simp [*]; done)), H', ⟨by have := HK1.out; omega⟩, by repeat (first | exact Drawn0.refl _ | apply Drawn0.step)⟩
end Go.Proofs.Ytlmkkmoammgjdaa.P
namespace Go.Proofs.Ytlmkkmoammgjdaa.P
open Go.RowKit Go.Proofs.YtlmkkmoammgjdaaW.PrintWords Go.Proofs.YtlmkkmoammgjdaaW.PrintLast Go.Proofs.YtlmkkmoammgjdaaW.PrintMore
attribute [local go_sem] max2_int min2_int max_two min_two max_three min_three max_four min_four
set_option linter.unusedVariables false
set_option linter.unusedSimpArgs false
def laws_eqInt64SSS.l0 : Nat → List (List (List Int)) → List (List (List Int)) → Int → Option (Bool)
 | 0, _, _, _ => none
 | k + 1, x0, x1, x5 => if x5 < (x0.length : Int) then (if 0 ≤ x5 then (if x5 < (x1.length : Int) then ((laws_eqInt64SS.f k (rd_L7 x0 x5) (rd_L7 x1 x5)).bind fun t311 => (if t311 = true then (laws_eqInt64SSS.l0 k x0 x1 (wrap64 (x5 + 1))) else (some false))) else (none)) else (none)) else (some true)
def laws_eqInt64SSS.f (k : Nat) (l0 : List (List (List Int))) (l1 : List (List (List Int))) : Option (Bool) := if (l0.length : Int) = (l1.length : Int) then (laws_eqInt64SSS.l0 k l0 l1 0) else (some false)
set_option maxHeartbeats 8000000 in
set_option maxRecDepth 100000 in
theorem laws_eqInt64SSS.calls (k : Nat) (A0 : Option Addr) (c0 : Nat) (l0 : List (List (List Int))) (A1 : Option Addr) (c1 : Nat) (l1 : List (List (List Int))) (r : Bool) (w : World) (hr0 : Kd.C (Kd.slice 60 (Kd.slice 2 (Kd.int .i64))) w A0 l0.length l0) (hc0 : l0.length ≤ c0) (hr1 : Kd.C (Kd.slice 60 (Kd.slice 2 (Kd.int .i64))) w A1 l1.length l1) (hc1 : l1.length ≤ c1) (h : laws_eqInt64SSS.f k l0 l1 = some r) :
  Calls Try.prog 36 #[.slice A0 l0.length c0, .slice A1 l1.length c1] w fun e w' => e = .returned (.bool r) ∧ Drawn0 w w' := by
 have HR0 := AZ.mk hr0
 have HC0 := AZ.mk hc0
 clear hr0 hc0
 have HR1 := AZ.mk hr1
 have HC1 := AZ.mk hc1
 clear hr1 hc1
 have H : (if (l0.length : Int) = (l1.length : Int) then (laws_eqInt64SSS.l0 k l0 l1 0) else (some false)) = some r := h
 clear h
 by_cases c3 : (l0.length : Int) = (l1.length : Int)
 rotate_left
 ·rw [if_neg c3] at H
  have c3b0 : ((l0.length : Int) == (l1.length : Int)) = false := beq_eq_false_iff_ne.mpr c3
  have c3b1 : ((l0.length : Int) != (l1.length : Int)) = true := bne_iff_ne.mpr c3
  have c3b2 : (l0.length == l1.length) = false := by first | simpa using c3 | (simp at c3 ⊢; omega)
  obtain rfl := Option.some.inj H
  go_enter Try.func36, Try.ntmps36
  go_wp2
  repeat (go_quiet (fail); try go_wp2)
  go_ret
  exact ⟨by first | rfl | (simp; done) | (simp [*]; done), by repeat (first | exact Drawn0.refl _ | apply Drawn0.step)⟩
 rw [if_pos c3] at H
 have c3b0 : ((l0.length : Int) == (l1.length : Int)) = true := beq_iff_eq.mpr c3
 have c3b1 : ((l0.length : Int) != (l1.length : Int)) = false := bne_eq_false_iff_eq.mpr c3
 have c3b2 : (l0.length == l1.length) = true := by first | simpa using c3 | (simp at c3 ⊢; omega)
 clear c3
 have H' := AZ.mk H
 clear H
 go_enter Try.func36, Try.ntmps36
 go_wp2
 repeat (go_quiet (fail); try go_wp2)
 go_loopg [5] k (fun kq v5 w' => ∃ (x5_1 : Int), v5 = .int .i64 x5_1 ∧ AZ (laws_eqInt64SSS.l0 kq l0 l1 x5_1 = some r) ∧ AZ (kq ≤ k) ∧ Drawn0 w w')
 case atStart => exact ⟨(0), (by first | rfl | (simp; done) | (simp [*]; done)), H', ⟨Nat.le_refl _⟩, by repeat (first | exact Drawn0.refl _ | apply Drawn0.step)⟩
 case round =>
  clear H'
  try clear c1
  try clear p2
  try clear c3
  try clear c3b0
  try clear c3b1
  try clear c3b2
  obtain ⟨x5_1, rfl, HA, HK1, ⟨m1, rfl⟩⟩ := hrel
  cases gk with
  | zero => exact absurd HA.out (by simp [laws_eqInt64SSS.l0])
  | succ k1 =>
   have H := HA.out
   clear HA
   simp only [laws_eqInt64SSS.l0] at H
   by_cases c4 : x5_1 < (l0.length : Int)
   rotate_left
   ·rw [if_neg c4] at H
    have c4b0 : decide (x5_1 < (l0.length : Int)) = false := decide_eq_false c4
    clear c4
    obtain rfl := Option.some.inj H
    go_wp2
    repeat (go_quiet (fail); try go_wp2)
    go_ret
    exact ⟨by first | rfl | (simp; done) | (simp [*]; done), by repeat (first | exact Drawn0.refl _ | apply Drawn0.step)⟩
   rw [if_pos c4] at H
   have c4b0 : decide (x5_1 < (l0.length : Int)) = true := decide_eq_true c4
   clear c4
   by_cases c5 : 0 ≤ x5_1
   rotate_left
   ·rw [if_neg c5] at H
    exact absurd H (by simp)
   rw [if_pos c5] at H
   have c5b0 : decide (0 ≤ x5_1) = true := decide_eq_true c5
   clear c5
   by_cases c6 : x5_1 < (l1.length : Int)
   rotate_left
   ·rw [if_neg c6] at H
    exact absurd H (by simp)
   rw [if_pos c6] at H
   have c6b0 : decide (x5_1 < (l1.length : Int)) = true := decide_eq_true c6
   clear c6
   replace H := Option.bind_eq_some_iff.mp H
   obtain ⟨t311, A70, H⟩ := H
   replace H : (if t311 = true then (laws_eqInt64SSS.l0 k1 l0 l1 (wrap64 (x5_1 + 1))) else (some false)) = some r := H
   have A7 := AZ.mk A70
   clear A70
   by_cases c8 : t311 = true
   rotate_left
   ·replace c8 := Bool.eq_false_iff.mpr c8
    subst c8
    have H1 : (some false) = some r := by rw [if_neg (show ¬ (false = true) by decide)] at H; exact H
    clear H
    have H := H1
    clear H1
    obtain rfl := Option.some.inj H
    have p309 : 0 ≤ (x5_1 : Int) := oT (by first | (with_reducible assumption) | assumption)
    have q309 : x5_1 < (l0.length : Int) := oT (by first | (with_reducible assumption) | assumption)
    obtain ⟨ad309, A309_0, c309_0, e309, hx309_0, hl309_0, hi309_0⟩ := at_L7 HR0.out x5_1 p309 q309
    cases e309
    have HR309_0 := AZ.mk hi309_0
    have HC309_0 := AZ.mk hl309_0
    clear hi309_0 hl309_0
    replace p309 := eq_true p309
    replace q309 := eq_true q309
    have p310 : 0 ≤ (x5_1 : Int) := oT (by first | (with_reducible assumption) | assumption)
    have q310 : x5_1 < (l1.length : Int) := oT (by first | (with_reducible assumption) | assumption)
    obtain ⟨ad310, A310_0, c310_0, e310, hx310_0, hl310_0, hi310_0⟩ := at_L7 HR1.out x5_1 p310 q310
    cases e310
    have HR310_0 := AZ.mk hi310_0
    have HC310_0 := AZ.mk hl310_0
    clear hi310_0 hl310_0
    replace p310 := eq_true p310
    replace q310 := eq_true q310
    go_wp2_with (first | (go_at_call 37; (with_reducible refine (laws_eqInt64SS.calls k1 _ _ (rd_L7 l0 x5_1) _ _ (rd_L7 l1 x5_1) false _ ?side1 ?side2 ?side3 ?side4 A7.out).mono ?_); (case side1 => repeat (first | exact HR309_0.out | (with_reducible refine Kd.C_alloc ?_ _) | (with_reducible refine Kd.C_drewN ?_ _) | (with_reducible refine Kd.C_drew ?_))); (case side2 => exact HC309_0.out); (case side3 => repeat (first | exact HR310_0.out | (with_reducible refine Kd.C_alloc ?_ _) | (with_reducible refine Kd.C_drewN ?_ _) | (with_reducible refine Kd.C_drew ?_))); (case side4 => exact HC310_0.out); rintro e w' ⟨rfl, ⟨nd, rfl⟩⟩; (try first | exact ⟨rfl, _, World.drewN_drewN _ _ _⟩ | exact ⟨rfl, _, Eq.trans (World.drewN_drewN _ _ _) (congrArg (World.drewN _) (Nat.add_assoc _ _ _))⟩)))
    repeat (go_quiet (first | (go_at_call 37; (with_reducible refine (laws_eqInt64SS.calls k1 _ _ (rd_L7 l0 x5_1) _ _ (rd_L7 l1 x5_1) false _ ?side1 ?side2 ?side3 ?side4 A7.out).mono ?_); (case side1 => repeat (first | exact HR309_0.out | (with_reducible refine Kd.C_alloc ?_ _) | (with_reducible refine Kd.C_drewN ?_ _) | (with_reducible refine Kd.C_drew ?_))); (case side2 => exact HC309_0.out); (case side3 => repeat (first | exact HR310_0.out | (with_reducible refine Kd.C_alloc ?_ _) | (with_reducible refine Kd.C_drewN ?_ _) | (with_reducible refine Kd.C_drew ?_))); (case side4 => exact HC310_0.out); rintro e w' ⟨rfl, ⟨nd, rfl⟩⟩; (try first | exact ⟨rfl, _, World.drewN_drewN _ _ _⟩ | exact ⟨rfl, _, Eq.trans (World.drewN_drewN _ _ _) (congrArg (World.drewN _) (Nat.add_assoc _ _ _))⟩))); try go_wp2_with (first | (go_at_call 37; (with_reducible refine (laws_eqInt64SS.calls k1 _ _ (rd_L7 l0 x5_1) _ _ (rd_L7 l1 x5_1) false _ ?side1 ?side2 ?side3 ?side4 A7.out).mono ?_); (case side1 => repeat (first | exact HR309_0.out | (with_reducible refine Kd.C_alloc ?_ _) | (with_reducible refine Kd.C_drewN ?_ _) | (with_reducible refine Kd.C_drew ?_))); (case side2 => exact HC309_0.out); (case side3 => repeat (first | exact HR310_0.out | (with_reducible refine Kd.C_alloc ?_ _) | (with_reducible refine Kd.C_drewN ?_ _) | (with_reducible refine Kd.C_drew ?_))); (case side4 => exact HC310_0.out); rintro e w' ⟨rfl, ⟨nd, rfl⟩⟩; (try first | exact ⟨rfl, _, World.drewN_drewN _ _ _⟩ | exact ⟨rfl, _, Eq.trans (World.drewN_drewN _ _ _) (congrArg (World.drewN _) (Nat.add_assoc _ _ _))⟩))))
    go_ret
    exact ⟨by first | rfl | (simp; done) | (simp [*]; done), by repeat (first | exact Drawn0.refl _ | apply Drawn0.step)⟩
   subst c8
   have H1 : (laws_eqInt64SSS.l0 k1 l0 l1 (wrap64 (x5_1 + 1))) = some r := by rw [if_pos rfl] at H; exact H
   clear H
   have H := H1
   clear H1
   have H' := AZ.mk H
   clear H
   have p309 : 0 ≤ (x5_1 : Int) := oT (by first | (with_reducible assumption) | assumption)
   have q309 : x5_1 < (l0.length : Int) := oT (by first | (with_reducible assumption) | assumption)
   obtain ⟨ad309, A309_0, c309_0, e309, hx309_0, hl309_0, hi309_0⟩ := at_L7 HR0.out x5_1 p309 q309
   cases e309
   have HR309_0 := AZ.mk hi309_0
   have HC309_0 := AZ.mk hl309_0
   clear hi309_0 hl309_0
   replace p309 := eq_true p309
   replace q309 := eq_true q309
   have p310 : 0 ≤ (x5_1 : Int) := oT (by first | (with_reducible assumption) | assumption)
   have q310 : x5_1 < (l1.length : Int) := oT (by first | (with_reducible assumption) | assumption)
   obtain ⟨ad310, A310_0, c310_0, e310, hx310_0, hl310_0, hi310_0⟩ := at_L7 HR1.out x5_1 p310 q310
   cases e310
   have HR310_0 := AZ.mk hi310_0
   have HC310_0 := AZ.mk hl310_0
   clear hi310_0 hl310_0
   replace p310 := eq_true p310
   replace q310 := eq_true q310
   go_wp2_with (first | (go_at_call 37; (with_reducible refine (laws_eqInt64SS.calls k1 _ _ (rd_L7 l0 x5_1) _ _ (rd_L7 l1 x5_1) true _ ?side1 ?side2 ?side3 ?side4 A7.out).mono ?_); (case side1 => repeat (first | exact HR309_0.out | (with_reducible refine Kd.C_alloc ?_ _) | (with_reducible refine Kd.C_drewN ?_ _) | (with_reducible refine Kd.C_drew ?_))); (case side2 => exact HC309_0.out); (case side3 => repeat (first | exact HR310_0.out | (with_reducible refine Kd.C_alloc ?_ _) | (with_reducible refine Kd.C_drewN ?_ _) | (with_reducible refine Kd.C_drew ?_))); (case side4 => exact HC310_0.out); rintro e w' ⟨rfl, ⟨nd, rfl⟩⟩; (try first | exact ⟨rfl, _, World.drewN_drewN _ _ _⟩ | exact ⟨rfl, _, Eq.trans (World.drewN_drewN _ _ _) (congrArg (World.drewN _) (Nat.add_assoc _ _ _))⟩)))
   repeat (go_quiet (first | (go_at_call 37; (with_reducible refine (laws_eqInt64SS.calls k1 _ _ (rd_L7 l0 x5_1) _ _ (rd_L7 l1 x5_1) true _ ?side1 ?side2 ?side3 ?side4 A7.out).mono ?_); (case side1 => repeat (first | exact HR309_0.out | (with_reducible refine Kd.C_alloc ?_ _) | (with_reducible refine Kd.C_drewN ?_ _) | (with_reducible refine Kd.C_drew ?_))); (case side2 => exact HC309_0.out); (case side3 => repeat (first | exact HR310_0.out | (with_reducible refine Kd.C_alloc ?_ _) | (with_reducible refine Kd.C_drewN ?_ _) | (with_reducible refine Kd.C_drew ?_))); (case side4 => exact HC310_0.out); rintro e w' ⟨rfl, ⟨nd, rfl⟩⟩; (try first | exact ⟨rfl, _, World.drewN_drewN _ _ _⟩ | exact ⟨rfl, _, Eq.trans (World.drewN_drewN _ _ _) (congrArg (World.drewN _) (Nat.add_assoc _ _ _))⟩))); try go_wp2_with (first | (go_at_call 37; (with_reducible refine (laws_eqInt64SS.calls k1 _ _ (rd_L7 l0 x5_1) _ _ (rd_L7 l1 x5_1) true _ ?side1 ?side2 ?side3 ?side4 A7.out).mono ?_); (case side1 => repeat (first | exact HR309_0.out | (with_reducible refine Kd.C_alloc ?_ _) | (with_reducible refine Kd.C_drewN ?_ _) | (with_reducible refine Kd.C_drew ?_))); (case side2 => exact HC309_0.out); (case side3 => repeat (first | exact HR310_0.out | (with_reducible refine Kd.C_alloc ?_ _) | (with_reducible refine Kd.C_drewN ?_ _) | (with_reducible refine Kd.C_drew ?_))); (case side4 => exact HC310_0.out); rintro e w' ⟨rfl, ⟨nd, rfl⟩⟩; (try first | exact ⟨rfl, _, World.drewN_drewN _ _ _⟩ | exact ⟨rfl, _, Eq.trans (World.drewN_drewN _ _ _) (congrArg (World.drewN _) (Nat.add_assoc _ _ _))⟩))))
   go_roundg k1
   case measure => have := HK1.out; omega
   case rel => exact ⟨(wrap64 (x5_1 + 1)), (by first | rfl | (simp; done) | (simp [*]; done)), H', ⟨by have := HK1.out; omega⟩, by repeat (first | exact Drawn0.refl _ | apply Drawn0.step)⟩
end Go.Proofs.Ytlmkkmoammgjdaa.P
