/- Texts that this law leans on, several in one; written by programs of these sessions (print, wip/deep, gather.py). -/
import Derived.Test.YtgfilbgjnloopaaGe4
namespace Go.Proofs.Ytgfilbgjnloopaa.P
open Go.RowKit Go.Proofs.YtgfilbgjnloopaaW.PrintWords Go.Proofs.YtgfilbgjnloopaaW.PrintLast Go.Proofs.YtgfilbgjnloopaaW.PrintMore
set_option linter.unusedVariables false
set_option linter.unusedSimpArgs false
def elFold (g : ByteArray → Option Int) (P : List (List Int)) : List ByteArray → Int → Option Int
 | [], o => if 0 ≤ o then some o else none
 | f :: fs, o => (g f).bind fun x => if (0 ≤ o ∧ o < (P.length : Int)) ∧ 0 ≤ x ∧ x < ((rd_L1 P o).length : Int) then elFold g P fs (rd (rd_L1 P o) x) else none
def elFac (h : ByteArray → Option Int) (Wr : List (List Int)) (In : List Int) (f : ByteArray) : Option Int :=
 if f.size = 1 then (impl_kindOf.f (bt f 0)).bind fun k => if 0 ≤ k ∧ k < (In.length : Int) then some (rd In k) else none
 else if 2 ≤ f.size ∧ f.size ≤ 1048576 then (impl_bracketsOf.f (bt f 0) (bt f ((f.size - 1 : Nat) : Int))).bind fun b => (h (f.extract 1 (f.size - 1))).bind fun e => if (0 ≤ b ∧ b < (Wr.length : Int)) ∧ 0 ≤ e ∧ e < ((rd_L1 Wr b).length : Int) then some (rd (rd_L1 Wr b) e) else none
 else none
def impl_of.f : Nat → List (List Int) → List (List Int) → List Int → ByteArray → Option Int
 | 0, _, _, _, _ => none
 | k + 1, P, Wr, In, u => (impl_factors.f k u).bind fun fs => elFold (elFac (impl_of.f k P Wr In) Wr In) P fs 0
theorem ent_nat {g : ByteArray → Option Int} {P : List (List Int)} {L : List ByteArray} {y r : Int} (h : elFold g P L y = some r) : ∃ n : Nat, y = (n : Int) := by
 cases L with
 | nil =>
  rw [elFold] at h
  by_cases h0 : 0 ≤ y
  ·exact ⟨y.toNat, by omega⟩
  ·rw [if_neg h0] at h; cases h
 | cons f fs =>
  rw [elFold] at h
  obtain ⟨x, _, h⟩ := Option.bind_eq_some_iff.1 h
  by_cases hb : (0 ≤ y ∧ y < (P.length : Int)) ∧ 0 ≤ x ∧ x < ((rd_L1 P y).length : Int)
  ·exact ⟨y.toNat, by omega⟩
  ·rw [if_neg hb] at h; cases h
def fac.T3 : Bool × List (List Nat × List Nat) := (true, [([], []), ([0], [0]), ([], []), ([2], [2]), ([3], [3]), ([1, 4, 4], [1, 4]), ([5, 5, 0, 1, 2, 3, 4, 5], [5])])
def fac.B3 : List Nat := [0, 1, 0, 4, 12, 31, 63]
theorem fac.tab3 : rtab .any (opsOf Try.f72 3) = fac.T3 := by kernel_rfl
theorem fac.bits3 : waitsOk fac.T3.2 fac.B3 = true := by kernel_rfl
def fac.T4 : Bool × List (List Nat × List Nat) := (true, [([], []), ([0], [0]), ([], []), ([2], [2]), ([], []), ([], []), ([4, 5], [4, 5]), ([3, 6], [3, 6]), ([], []), ([], []), ([], []), ([9, 10], [9, 10]), ([8, 11, 7], [8, 11]), ([1, 7, 12, 12], [1, 7, 12]), ([13, 13, 0, 1, 2, 3, 4, 5, 6, 7, 8, 9, 10, 11, 12, 13], [13])])
def fac.B4 : List Nat := [0, 1, 0, 4, 0, 0, 48, 124, 0, 0, 0, 1536, 4092, 8191, 16383]
theorem fac.tab4 : rtab .any (opsOf Try.f72 4) = fac.T4 := by kernel_rfl
theorem fac.bits4 : waitsOk fac.T4.2 fac.B4 = true := by kernel_rfl
def of_.T5 : Bool × List (List Nat × List Nat) := (true, [([], []), ([0], [0]), ([], []), ([], []), ([], []), ([3, 4], [3, 4]), ([1, 2, 5, 5], [1, 2, 5]), ([6, 6, 0, 1, 2, 3, 4, 5, 6], [2, 6])])
def of_.B5 : List Nat := [0, 1, 0, 0, 0, 24, 63, 127]
theorem of_.tab5 : rtab .any (opsOf Try.f50 5) = of_.T5 := by kernel_rfl
theorem of_.bits5 : waitsOk of_.T5.2 of_.B5 = true := by kernel_rfl
section
variable (A0 : Option Addr) (c0 : Nat) (P : List (List Int)) (A1 : Option Addr) (c1 : Nat) (Wr : List (List Int)) (A2 : Option Addr) (c2 : Nat) (In : List Int) (A3 : Option Addr) (c3 : Nat) (Ac : List Bool)
def Rd (w : World) (gA : Nat) : Prop := w.heap[gA]? = some (.cells #[.slice A0 P.length c0, .slice A1 Wr.length c1, .slice A2 In.length c2, .slice A3 Ac.length c3] 29 (0, 0)) ∧ Kd.C (Kd.slice 2 (Kd.int .i64)) w A0 P.length P ∧ Kd.C (Kd.slice 2 (Kd.int .i64)) w A1 Wr.length Wr ∧ (Kd.int .i64).C w A2 In.length In
variable {A0 c0 P A1 c1 Wr A2 c2 In A3 c3 Ac} in
theorem Rd.below {w w' : World} {gA : Nat} (h : Rd A0 c0 P A1 c1 Wr A2 c2 In A3 c3 Ac w gA) (hb : Below w.heap.size w w') : Rd A0 c0 P A1 c1 Wr A2 c2 In A3 c3 Ac w' gA := ⟨bb_ h.1 hb, Kd.C_below h.2.1 hb, Kd.C_below h.2.2.1 hb, Kd.C_below h.2.2.2 hb⟩
set_option maxHeartbeats 8000000 in
set_option maxRecDepth 100000 in
theorem m1_calls (i : Nat) (w : World) (gA : Nat) (h : Rd A0 c0 P A1 c1 Wr A2 c2 In A3 c3 Ac w gA) (hi : i < In.length) :
  Calls Try.prog 68 #[.int .i64 (i : Int), .pointer (some ⟨gA, 0, none⟩)] w fun e w' => e = .returned (.int .i64 (rd In (i : Int))) ∧ Below w.heap.size w w' := by
 obtain ⟨bA, hP, hW, hI⟩ := h
 have hz0 := (bc bA 0).trans rfl
 have hz1 := (bc bA 1).trans rfl
 have hz2 := (bc bA 2).trans rfl
 obtain ⟨ad, e1, hx⟩ := Kd.at_int hI (i : Int) (by omega) (by omega)
 subst e1
 rw [Int.toNat_natCast] at hx
 have p1 := eq_true (show 0 ≤ (i : Int) by omega)
 have q1 := eq_true (show (i : Int) < (In.length : Int) by omega)
 have q1n := eq_true hi
 go_enter Try.func68, Try.ntmps68
 go_wp2
 go_ret
 exact ⟨rfl, Below.refl _ _⟩
set_option maxHeartbeats 8000000 in
set_option maxRecDepth 100000 in
theorem m2_calls (i j : Nat) (w : World) (gA : Nat) (h : Rd A0 c0 P A1 c1 Wr A2 c2 In A3 c3 Ac w gA) (hi : i < Wr.length) (hj : j < (rd_L1 Wr (i : Int)).length) :
  Calls Try.prog 69 #[.int .i64 (i : Int), .int .i64 (j : Int), .pointer (some ⟨gA, 0, none⟩)] w fun e w' => e = .returned (.int .i64 (rd (rd_L1 Wr (i : Int)) (j : Int))) ∧ Below w.heap.size w w' := by
 obtain ⟨bA, hP, hW, hI⟩ := h
 have hz0 := (bc bA 0).trans rfl
 have hz1 := (bc bA 1).trans rfl
 have hz2 := (bc bA 2).trans rfl
 have l1 : j < (rd_L1 Wr (i : Int)).length := hj
 obtain ⟨ad, B1, d1, e1, hx, -, hr⟩ := at_L1 hW (i : Int) (by omega) (by omega)
 subst e1
 rw [Int.toNat_natCast] at hx
 obtain ⟨bd, e2, hy⟩ := Kd.at_int hr (j : Int) (by omega) (by omega)
 subst e2
 rw [Int.toNat_natCast] at hy
 have p1 := eq_true (show 0 ≤ (i : Int) by omega)
 have q1 := eq_true (show (i : Int) < (Wr.length : Int) by omega)
 have p2 := eq_true (show 0 ≤ (j : Int) by omega)
 have q2 := eq_true (show (j : Int) < ((rd_L1 Wr (i : Int)).length : Int) by omega)
 have q1n := eq_true hi
 have q2n := eq_true hj
 go_enter Try.func69, Try.ntmps69
 go_wp2
 go_ret
 exact ⟨rfl, Below.refl _ _⟩
set_option maxHeartbeats 8000000 in
set_option maxRecDepth 100000 in
theorem m3_calls (i j : Nat) (w : World) (gA : Nat) (h : Rd A0 c0 P A1 c1 Wr A2 c2 In A3 c3 Ac w gA) (hi : i < P.length) (hj : j < (rd_L1 P (i : Int)).length) :
  Calls Try.prog 70 #[.int .i64 (i : Int), .int .i64 (j : Int), .pointer (some ⟨gA, 0, none⟩)] w fun e w' => e = .returned (.int .i64 (rd (rd_L1 P (i : Int)) (j : Int))) ∧ Below w.heap.size w w' := by
 obtain ⟨bA, hP, hW, hI⟩ := h
 have hz0 := (bc bA 0).trans rfl
 have hz1 := (bc bA 1).trans rfl
 have hz2 := (bc bA 2).trans rfl
 have l1 : j < (rd_L1 P (i : Int)).length := hj
 obtain ⟨ad, B1, d1, e1, hx, -, hr⟩ := at_L1 hP (i : Int) (by omega) (by omega)
 subst e1
 rw [Int.toNat_natCast] at hx
 obtain ⟨bd, e2, hy⟩ := Kd.at_int hr (j : Int) (by omega) (by omega)
 subst e2
 rw [Int.toNat_natCast] at hy
 have p1 := eq_true (show 0 ≤ (i : Int) by omega)
 have q1 := eq_true (show (i : Int) < (P.length : Int) by omega)
 have p2 := eq_true (show 0 ≤ (j : Int) by omega)
 have q2 := eq_true (show (j : Int) < ((rd_L1 P (i : Int)).length : Int) by omega)
 have q1n := eq_true hi
 have q2n := eq_true hj
 go_enter Try.func70, Try.ntmps70
 go_wp2
 go_ret
 exact ⟨rfl, Below.refl _ _⟩
set_option maxHeartbeats 8000000 in
set_option maxRecDepth 100000 in
theorem fac_calls (h : ByteArray → Option Int) (hof : ∀ (u : ByteArray) (r : Int) (w : World) (gA : Nat), h u = some r → Rd A0 c0 P A1 c1 Wr A2 c2 In A3 c3 Ac w gA → Calls Try.prog 50 #[.agg #[.int .i64 0, .func (.func 68) #[] #[.pointer (some ⟨gA, 0, none⟩)], .func (.func 69) #[] #[.pointer (some ⟨gA, 0, none⟩)], .func (.func 70) #[] #[.pointer (some ⟨gA, 0, none⟩)]], .string u] w fun e w' => e = .returned (.int .i64 r) ∧ Below w.heap.size w w')
  (u : ByteArray) (r : Int) (w : World) (gA : Nat) (hu : elFac h Wr In u = some r) (hR : Rd A0 c0 P A1 c1 Wr A2 c2 In A3 c3 Ac w gA) : Calls Try.prog 72 #[.agg #[.int .i64 0, .func (.func 68) #[] #[.pointer (some ⟨gA, 0, none⟩)], .func (.func 69) #[] #[.pointer (some ⟨gA, 0, none⟩)], .func (.func 70) #[] #[.pointer (some ⟨gA, 0, none⟩)]], .string u] w fun e w' => e = .returned (.int .i64 r) ∧ Below w.heap.size w w' := by
 have hu72 := Try.underlying72
 have HB := AZ.mk (Below.refl w.heap.size w)
 have HR := AZ.mk hR
 have HOF := AZ.mk hof
 clear hR hof
 unfold elFac at hu
 by_cases h1 : u.size = 1
 ·rw [if_pos h1] at hu
  obtain ⟨k, hk, hu⟩ := Option.bind_eq_some_iff.1 hu
  by_cases hb : 0 ≤ k ∧ k < (In.length : Int)
  ·rw [if_pos hb] at hu
   obtain ⟨kb, rfl⟩ : ∃ b : Nat, k = (b : Int) := ⟨k.toNat, by omega⟩
   obtain rfl := Option.some.inj hu
   have HK := AZ.mk hk
   have HBI := AZ.mk (show kb < In.length by omega)
   have z1 : IntKind.i64.wrap ((u.size : Int) - 1) = 0 := (i64_w _).trans (by rw [h1]; unfold wrap64; omega)
   have p5 := eq_true (show (0 : Int) < (u.size : Int) by omega)
   have p6 := eq_true (show 0 < u.size by omega)
   have bx := bt_at u 0
   have by_ : ∀ h : 0 < u.size, ((u[0]'h).toNat : Int) = bt u 0 := fun h => bt_at u 0 h
   clear hu hk hb h1
   go_enter Try.func72, Try.ntmps72
   go_wp2_with (first | ((with_reducible refine gate_dst (N := 2) rfl ?_); refine box_event ?hg (N := 2) ?hd (cs := #[.int .i64 0, .func (.func 68) #[] #[.pointer (some ⟨gA, 0, none⟩)], .func (.func 69) #[] #[.pointer (some ⟨gA, 0, none⟩)], .func (.func 70) #[] #[.pointer (some ⟨gA, 0, none⟩)]]) (t := 72) ?hr ?_; (case hd => rfl); (case hg => rfl); (case hr => first | (go_simp; done) | (go_simp; rfl)); intro gM hg WgM hbx hb; have BM := AZ.mk hbx; have GM := AZ.mk (show w.heap.size ≤ gM by rw [hg]; exact pZ HB.out); have n0_ := AZ.mk (pT HB.out hb); have n1_ := AZ.mk (HR.out.below hb); clear HB HR; have HB := n0_; have HR := n1_; clear n0_ n1_; clear hb hbx hg; have hm0 := (bc BM.out 0).trans rfl; have hm1 := (bc BM.out 1).trans rfl; have hm2 := (bc BM.out 2).trans rfl; have hm3 := (bc BM.out 3).trans rfl))
   refine start_ (n := 7) (S := fun w' => True) (ds := []) #[false, false, false, false, false, false, false] (by kernel_rfl) rfl rfl trivial (fun hHeld => ?_)
   refine with_tabW fac.tab3 fac.bits3 (fun HT_ HW_ => ?_)
   have n0_ := AZ.mk (pD HB.out)
   have n1_ := AZ.mk (HR.out.below (below_drew (Below.refl _ _)))
   have n2_ := AZ.mk (bd_ BM.out)
   clear HB HR BM
   have HB := n0_
   have HR := n1_
   have BM := n2_
   clear n0_ n1_ n2_
   generalize World.drew _ = wD at HB HR BM hHeld ⊢
   refine pure_ (i := 0) (N := some 11) (v := ?_) (a' := ?_) #[true, false, false, false, false, false, false] rfl rfl (any_of HT_.out (by kernel_rfl)) (fun _ _ _ h => h) (Or.inl ⟨by rfl, ?_⟩) ?_ ?_
   rotate_left
   ·intro w'
    go_simp
    with_reducible rfl
   rotate_left
   ·simp only [Act.put, sA, sB, sC, i64_w, i32_w]
    rfl
   refine pure_ (i := 2) (N := some 13) (v := ?_) (a' := ?_) #[true, false, true, false, false, false, false] rfl rfl (any_of HT_.out (by kernel_rfl)) (fun _ _ _ h => h) (Or.inl ⟨by rfl, ?_⟩) ?_ ?_
   rotate_left
   ·intro w'
    go_simp
    with_reducible rfl
   rotate_left
   ·simp only [Act.put, sA, sB, sC, i64_w, i32_w]
    rfl
   refine inv_at [1, 3, 4, 5, 6] (fun a0_ b a w' => a = putSel a0_ b [(1, 12, .func (.func 68) #[] #[.pointer (some ⟨gA, 0, none⟩)]), (3, 14, .int .u8 (bt u 0)), (4, 15, .int .i64 (kb : Int)), (5, 16, .int .i64 (rd In (kb : Int))), (6, 4, .int .i64 (rd In (kb : Int)))] ∧ (Below w.heap.size w w') ∧ (Rd A0 c0 P A1 c1 Wr A2 c2 In A3 c3 Ac w' gA) ∧ (w'.heap[gM]? = some (.cells #[.int .i64 0, .func (.func 68) #[] #[.pointer (some ⟨gA, 0, none⟩)], .func (.func 69) #[] #[.pointer (some ⟨gA, 0, none⟩)], .func (.func 70) #[] #[.pointer (some ⟨gA, 0, none⟩)]] 72 (0, 0)))) HT_.out HW_.out (by kernel_rfl) (by kernel_rfl) ?_ ?_ ?_
   ·exact ⟨by simp only [putSel, Bool.false_eq_true, if_false], HB.out, HR.out, BM.out⟩
   ·skip
    clear BM HB HR
    refine steps_cons ?_ ?_
    ·rintro b a w' ⟨ha, Q_HB, Q_HR, Q_BM⟩ hb_ hon hoff
     refine ⟨_, rfl, fun K hK => ?_⟩
     have e11 : a.tmps[11]? = some (.pointer (some ⟨gM, 1, none⟩)) := by rw [ha]; exact (putSel_off rfl).trans rfl
     replace ha := AZ.mk ha
     have HB := AZ.mk Q_HB
     have HR := AZ.mk Q_HR
     have BM := AZ.mk Q_BM
     have hc_ : w'.cell? ⟨gM, 1, none⟩ = some (.func (.func 68) #[] #[.pointer (some ⟨gA, 0, none⟩)]) := (bc BM.out 1).trans rfl
     refine value_ (w1 := w') (v := .func (.func 68) #[] #[.pointer (some ⟨gA, 0, none⟩)]) (by rfl) rfl ?_ ?_
     ·go_simp
      (try simp only [i64_w])
      try rfl
     refine hK.out _ _ ⟨(by rw [ha.out]; exact putSel_upk 0 hb_ rfl rfl rfl), Q_HB, Q_HR, Q_BM⟩
    refine steps_cons ?_ ?_
    ·rintro b a w' ⟨ha, Q_HB, Q_HR, Q_BM⟩ hb_ hon hoff
     refine ⟨_, rfl, fun K hK => ?_⟩
     have e13 : a.tmps[13]? = some (.string u) := by rw [ha]; exact (putSel_off rfl).trans rfl
     replace ha := AZ.mk ha
     have HB := AZ.mk Q_HB
     have HR := AZ.mk Q_HR
     have BM := AZ.mk Q_BM
     refine value_ (w1 := w') (v := .int .u8 (bt u 0)) (by rfl) rfl ?_ ?_
     ·go_simp
      (try simp only [i64_w])
      try rfl
     refine hK.out _ _ ⟨(by rw [ha.out]; exact putSel_upk 1 hb_ rfl rfl rfl), Q_HB, Q_HR, Q_BM⟩
    refine steps_cons ?_ ?_
    ·rintro b a w' ⟨ha, Q_HB, Q_HR, Q_BM⟩ hb_ hon hoff
     refine ⟨_, rfl, fun K hK => ?_⟩
     have e14 : a.tmps[14]? = some (.int .u8 (bt u 0)) := by rw [ha]; exact putSel_on (e := (3, 14, .int .u8 (bt u 0))) 1 rfl rfl (hon 3 (by kernel_rfl)) rfl
     replace ha := AZ.mk ha
     have HB := AZ.mk Q_HB
     have HR := AZ.mk Q_HR
     have BM := AZ.mk Q_BM
     refine goes_ Try.func80 (by kernel_rfl) rfl #[.int .u8 (bt u 0)] (by rfl) rfl rfl (by simp only [List.map_toArray, List.map_cons, List.map_nil, eval_of e14]) ?_
     refine (impl_kindOf.calls (bt u 0) (kb : Int) _ HK.out).mono ?_
     rintro e w_ ⟨rfl, hd⟩
     refine ⟨_, rfl, ?_⟩
     have hb := hd.below
     refine hK.out _ _ ⟨(by rw [ha.out]; exact putSel_upk 2 hb_ rfl rfl rfl), pT HB.out hb, HR.out.below hb, bb_ BM.out hb⟩
    refine steps_cons ?_ ?_
    ·rintro b a w' ⟨ha, Q_HB, Q_HR, Q_BM⟩ hb_ hon hoff
     refine ⟨_, rfl, fun K hK => ?_⟩
     have e12 : a.tmps[12]? = some (.func (.func 68) #[] #[.pointer (some ⟨gA, 0, none⟩)]) := by rw [ha]; exact putSel_on (e := (1, 12, .func (.func 68) #[] #[.pointer (some ⟨gA, 0, none⟩)])) 0 rfl rfl (hon 1 (by kernel_rfl)) rfl
     have e15 : a.tmps[15]? = some (.int .i64 (kb : Int)) := by rw [ha]; exact putSel_on (e := (4, 15, .int .i64 (kb : Int))) 2 rfl rfl (hon 4 (by kernel_rfl)) rfl
     replace ha := AZ.mk ha
     have HB := AZ.mk Q_HB
     have HR := AZ.mk Q_HR
     have BM := AZ.mk Q_BM
     refine goesV_ Try.func68 (by kernel_rfl) rfl #[.int .i64 (kb : Int)] _ (by rfl) rfl rfl (eval_of e12) (by simp only [List.map_toArray, List.map_cons, List.map_nil, eval_of e15]) rfl ?_
     refine (m1_calls A0 c0 P A1 c1 Wr A2 c2 In A3 c3 Ac kb _ gA HR.out HBI.out).mono ?_
     rintro e w_ ⟨rfl, hb⟩
     refine ⟨_, rfl, ?_⟩
     refine hK.out _ _ ⟨(by rw [ha.out]; exact putSel_upk 3 hb_ rfl rfl rfl), pT HB.out hb, HR.out.below hb, bb_ BM.out hb⟩
    refine steps_cons ?_ ?_
    ·rintro b a w' ⟨ha, Q_HB, Q_HR, Q_BM⟩ hb_ hon hoff
     refine ⟨_, rfl, fun K hK => ?_⟩
     have e16 : a.tmps[16]? = some (.int .i64 (rd In (kb : Int))) := by rw [ha]; exact putSel_on (e := (5, 16, .int .i64 (rd In (kb : Int)))) 3 rfl rfl (hon 5 (by kernel_rfl)) rfl
     replace ha := AZ.mk ha
     have HB := AZ.mk Q_HB
     have HR := AZ.mk Q_HR
     have BM := AZ.mk Q_BM
     refine value_ (w1 := w') (v := .int .i64 (rd In (kb : Int))) (by rfl) rfl ?_ ?_
     ·go_simp
      (try simp only [i64_w])
      try rfl
     refine hK.out _ _ ⟨(by rw [ha.out]; exact putSel_upk 4 hb_ rfl rfl rfl), Q_HB, Q_HR, Q_BM⟩
    exact steps_nil
   ·rintro b a w' hall ⟨ha, Q_HB, Q_HR, Q_BM⟩
    clear BM HB HR
    have hb1_ := hall 1 (by kernel_rfl)
    have hb3_ := hall 3 (by kernel_rfl)
    have hb4_ := hall 4 (by kernel_rfl)
    have hb5_ := hall 5 (by kernel_rfl)
    have hb6_ := hall 6 (by kernel_rfl)
    subst ha
    simp only [putSel, hb1_, hb3_, hb4_, hb5_, hb6_, if_true, Act.put, sA, sB, sC]
    have HB := AZ.mk Q_HB
    clear Q_HB
    have HR := AZ.mk Q_HR
    clear Q_HR
    have BM := AZ.mk Q_BM
    clear Q_BM
    clear hall hb1_ hb3_ hb4_ hb5_ hb6_
    go_wp2
    go_ret
    exact ⟨rfl, HB.out⟩
  ·rw [if_neg hb] at hu
   cases hu
 ·rw [if_neg h1] at hu
  by_cases h2 : 2 ≤ u.size ∧ u.size ≤ 1048576
  ·rw [if_pos h2] at hu
   obtain ⟨n1, hn1⟩ : ∃ n : Nat, n + 1 = u.size := ⟨u.size - 1, by omega⟩
   have en : u.size - 1 = n1 := by omega
   rw [en] at hu
   obtain ⟨k, hk, hu⟩ := Option.bind_eq_some_iff.1 hu
   obtain ⟨e, he, hu⟩ := Option.bind_eq_some_iff.1 hu
   by_cases hb : (0 ≤ k ∧ k < (Wr.length : Int)) ∧ 0 ≤ e ∧ e < ((rd_L1 Wr k).length : Int)
   ·rw [if_pos hb] at hu
    obtain ⟨kb, rfl⟩ : ∃ b : Nat, k = (b : Int) := ⟨k.toNat, by omega⟩
    obtain ⟨e0, rfl⟩ : ∃ b : Nat, e = (b : Int) := ⟨e.toNat, by omega⟩
    obtain rfl := Option.some.inj hu
    have HK := AZ.mk hk
    have HEE := AZ.mk he
    have HBI := AZ.mk (show kb < Wr.length by omega)
    have HEI := AZ.mk (show e0 < (rd_L1 Wr (kb : Int)).length by omega)
    have hsz := h2.2
    have z1 : IntKind.i64.wrap ((u.size : Int) - 1) = (n1 : Int) := (i64_w _).trans (by unfold wrap64; omega)
    have z2 : ((n1 : Int) == 0) = false := beq_eq_false_iff_ne.mpr (by omega)
    have z3 := eq_false (show ¬ n1 = 0 by omega)
    have p5 := eq_true (show (0 : Int) < (u.size : Int) by omega)
    have p6 := eq_true (show 0 < u.size by omega)
    have p7 := eq_true (show (n1 : Int) < (u.size : Int) by omega)
    have p8 := eq_true (show n1 < u.size by omega)
    have p9 := eq_true (show (n1 : Int) ≤ (u.size : Int) by omega)
    have pa := eq_true (show n1 ≤ u.size by omega)
    have pb := eq_true (show (1 : Int) ≤ (n1 : Int) by omega)
    have pc := eq_true (show 1 ≤ n1 by omega)
    have pd := eq_true (show 0 ≤ (n1 : Int) by omega)
    have bx := bt_at u 0
    have by_ : ∀ h : 0 < u.size, ((u[0]'h).toNat : Int) = bt u 0 := fun h => bt_at u 0 h
    have bzz : ∀ h : n1 < u.size, ((u[n1]'h).toNat : Int) = bt u (n1 : Int) := fun h => by have h9 := bt_at u (n1 : Int); simp only [Int.toNat_natCast] at h9; exact h9 h
    clear hu hk he hb h1 h2 hn1 en hsz
    go_enter Try.func72, Try.ntmps72
    go_wp2_with (first | ((with_reducible refine gate_dst (N := 2) rfl ?_); refine box_event ?hg (N := 2) ?hd (cs := #[.int .i64 0, .func (.func 68) #[] #[.pointer (some ⟨gA, 0, none⟩)], .func (.func 69) #[] #[.pointer (some ⟨gA, 0, none⟩)], .func (.func 70) #[] #[.pointer (some ⟨gA, 0, none⟩)]]) (t := 72) ?hr ?_; (case hd => rfl); (case hg => rfl); (case hr => first | (go_simp; done) | (go_simp; rfl)); intro gM hg WgM hbx hb; have BM := AZ.mk hbx; have GM := AZ.mk (show w.heap.size ≤ gM by rw [hg]; exact pZ HB.out); have n0_ := AZ.mk (pT HB.out hb); have n1_ := AZ.mk (HR.out.below hb); clear HB HR; have HB := n0_; have HR := n1_; clear n0_ n1_; clear hb hbx hg; have hm0 := (bc BM.out 0).trans rfl; have hm1 := (bc BM.out 1).trans rfl; have hm2 := (bc BM.out 2).trans rfl; have hm3 := (bc BM.out 3).trans rfl))
    refine start_ (n := 15) (S := fun w' => True) (ds := []) (bz 15 0) (by kernel_rfl) rfl rfl trivial (fun hHeld => ?_)
    refine with_tabW fac.tab4 fac.bits4 (fun HT_ HW_ => ?_)
    have n0_ := AZ.mk (pD HB.out)
    have n1_ := AZ.mk (HR.out.below (below_drew (Below.refl _ _)))
    have n2_ := AZ.mk (bd_ BM.out)
    clear HB HR BM
    have HB := n0_
    have HR := n1_
    have BM := n2_
    clear n0_ n1_ n2_
    generalize World.drew _ = wD at HB HR BM hHeld ⊢
    refine pure_ (i := 0) (N := some 17) (v := ?_) (a' := ?_) (bz 15 1) rfl rfl (any_of HT_.out (by kernel_rfl)) (fun _ _ _ h => h) (Or.inl ⟨by rfl, ?_⟩) ?_ ?_
    rotate_left
    ·intro w'
     go_simp
     with_reducible rfl
    rotate_left
    ·simp only [Act.put, sA, sB, sC, i64_w, i32_w]
     rfl
    refine pure_ (i := 2) (N := some 19) (v := ?_) (a' := ?_) (bz 15 5) rfl rfl (any_of HT_.out (by kernel_rfl)) (fun _ _ _ h => h) (Or.inl ⟨by rfl, ?_⟩) ?_ ?_
    rotate_left
    ·intro w'
     go_simp
     with_reducible rfl
    rotate_left
    ·simp only [Act.put, sA, sB, sC, i64_w, i32_w]
     rfl
    refine pure_ (i := 4) (N := some 21) (v := ?_) (a' := ?_) (bz 15 21) rfl rfl (any_of HT_.out (by kernel_rfl)) (fun _ _ _ h => h) (Or.inl ⟨by rfl, ?_⟩) ?_ ?_
    rotate_left
    ·intro w'
     go_simp
     with_reducible rfl
    rotate_left
    ·simp only [Act.put, sA, sB, sC, i64_w, i32_w]
     rfl
    refine pure_ (i := 5) (N := some 22) (v := ?_) (a' := ?_) (bz 15 53) rfl rfl (any_of HT_.out (by kernel_rfl)) (fun _ _ _ h => h) (Or.inl ⟨by rfl, ?_⟩) ?_ ?_
    rotate_left
    ·intro w'
     go_simp
     with_reducible rfl
    rotate_left
    ·simp only [Act.put, sA, sB, sC, i64_w, i32_w]
     rfl
    refine pure_ (i := 9) (N := some 26) (v := ?_) (a' := ?_) (bz 15 565) rfl rfl (any_of HT_.out (by kernel_rfl)) (fun _ _ _ h => h) (Or.inl ⟨by rfl, ?_⟩) ?_ ?_
    rotate_left
    ·intro w'
     go_simp
     with_reducible rfl
    rotate_left
    ·simp only [Act.put, sA, sB, sC, i64_w, i32_w]
     rfl
    refine pure_ (i := 10) (N := some 27) (v := ?_) (a' := ?_) (bz 15 1589) rfl rfl (any_of HT_.out (by kernel_rfl)) (fun _ _ _ h => h) (Or.inl ⟨by rfl, ?_⟩) ?_ ?_
    rotate_left
    ·intro w'
     go_simp
     with_reducible rfl
    rotate_left
    ·simp only [Act.put, sA, sB, sC, i64_w, i32_w]
     rfl
    refine inv_at [1, 3, 6, 7, 8, 11, 12, 13, 14] (fun a0_ b a w' => a = putSel a0_ b [(1, 18, .func (.func 69) #[] #[.pointer (some ⟨gA, 0, none⟩)]), (3, 20, .int .u8 (bt u 0)), (6, 23, .int .u8 (bt u (n1 : Int))), (7, 24, .int .i64 (kb : Int)), (8, 25, .agg #[.int .i64 0, .func (.func 68) #[] #[.pointer (some ⟨gA, 0, none⟩)], .func (.func 69) #[] #[.pointer (some ⟨gA, 0, none⟩)], .func (.func 70) #[] #[.pointer (some ⟨gA, 0, none⟩)]]), (11, 28, .string (u.extract 1 n1)), (12, 29, .int .i64 (e0 : Int)), (13, 30, .int .i64 (rd (rd_L1 Wr (kb : Int)) (e0 : Int))), (14, 4, .int .i64 (rd (rd_L1 Wr (kb : Int)) (e0 : Int)))] ∧ (Below w.heap.size w w') ∧ (Rd A0 c0 P A1 c1 Wr A2 c2 In A3 c3 Ac w' gA) ∧ (w'.heap[gM]? = some (.cells #[.int .i64 0, .func (.func 68) #[] #[.pointer (some ⟨gA, 0, none⟩)], .func (.func 69) #[] #[.pointer (some ⟨gA, 0, none⟩)], .func (.func 70) #[] #[.pointer (some ⟨gA, 0, none⟩)]] 72 (0, 0)))) HT_.out HW_.out (by kernel_rfl) (by kernel_rfl) ?_ ?_ ?_
    ·exact ⟨by simp only [putSel, Bool.false_eq_true, if_false], HB.out, HR.out, BM.out⟩
    ·skip
     clear BM HB HR
     refine steps_cons ?_ ?_
     ·rintro b a w' ⟨ha, Q_HB, Q_HR, Q_BM⟩ hb_ hon hoff
      refine ⟨_, rfl, fun K hK => ?_⟩
      have e17 : a.tmps[17]? = some (.pointer (some ⟨gM, 2, none⟩)) := by rw [ha]; exact (putSel_off rfl).trans rfl
      replace ha := AZ.mk ha
      have HB := AZ.mk Q_HB
      have HR := AZ.mk Q_HR
      have BM := AZ.mk Q_BM
      have hc_ : w'.cell? ⟨gM, 2, none⟩ = some (.func (.func 69) #[] #[.pointer (some ⟨gA, 0, none⟩)]) := (bc BM.out 2).trans rfl
      refine value_ (w1 := w') (v := .func (.func 69) #[] #[.pointer (some ⟨gA, 0, none⟩)]) (by rfl) rfl ?_ ?_
      ·go_simp
       (try simp only [i64_w])
       try rfl
      refine hK.out _ _ ⟨(by rw [ha.out]; exact putSel_upk 0 hb_ rfl rfl rfl), Q_HB, Q_HR, Q_BM⟩
     refine steps_cons ?_ ?_
     ·rintro b a w' ⟨ha, Q_HB, Q_HR, Q_BM⟩ hb_ hon hoff
      refine ⟨_, rfl, fun K hK => ?_⟩
      have e19 : a.tmps[19]? = some (.string u) := by rw [ha]; exact (putSel_off rfl).trans rfl
      replace ha := AZ.mk ha
      have HB := AZ.mk Q_HB
      have HR := AZ.mk Q_HR
      have BM := AZ.mk Q_BM
      refine value_ (w1 := w') (v := .int .u8 (bt u 0)) (by rfl) rfl ?_ ?_
      ·go_simp
       (try simp only [i64_w])
       try rfl
      refine hK.out _ _ ⟨(by rw [ha.out]; exact putSel_upk 1 hb_ rfl rfl rfl), Q_HB, Q_HR, Q_BM⟩
     refine steps_cons ?_ ?_
     ·rintro b a w' ⟨ha, Q_HB, Q_HR, Q_BM⟩ hb_ hon hoff
      refine ⟨_, rfl, fun K hK => ?_⟩
      have e21 : a.tmps[21]? = some (.string u) := by rw [ha]; exact (putSel_off rfl).trans rfl
      have e22 : a.tmps[22]? = some (.int .i64 (n1 : Int)) := by rw [ha]; exact (putSel_off rfl).trans rfl
      replace ha := AZ.mk ha
      have HB := AZ.mk Q_HB
      have HR := AZ.mk Q_HR
      have BM := AZ.mk Q_BM
      refine value_ (w1 := w') (v := .int .u8 (bt u (n1 : Int))) (by rfl) rfl ?_ ?_
      ·go_simp
       (try simp only [i64_w])
       try rfl
      refine hK.out _ _ ⟨(by rw [ha.out]; exact putSel_upk 2 hb_ rfl rfl rfl), Q_HB, Q_HR, Q_BM⟩
     refine steps_cons ?_ ?_
     ·rintro b a w' ⟨ha, Q_HB, Q_HR, Q_BM⟩ hb_ hon hoff
      refine ⟨_, rfl, fun K hK => ?_⟩
      have e20 : a.tmps[20]? = some (.int .u8 (bt u 0)) := by rw [ha]; exact putSel_on (e := (3, 20, .int .u8 (bt u 0))) 1 rfl rfl (hon 3 (by kernel_rfl)) rfl
      have e23 : a.tmps[23]? = some (.int .u8 (bt u (n1 : Int))) := by rw [ha]; exact putSel_on (e := (6, 23, .int .u8 (bt u (n1 : Int)))) 2 rfl rfl (hon 6 (by kernel_rfl)) rfl
      replace ha := AZ.mk ha
      have HB := AZ.mk Q_HB
      have HR := AZ.mk Q_HR
      have BM := AZ.mk Q_BM
      refine goes_ Try.func81 (by kernel_rfl) rfl #[.int .u8 (bt u 0), .int .u8 (bt u (n1 : Int))] (by rfl) rfl rfl (by simp only [List.map_toArray, List.map_cons, List.map_nil, eval_of e20, eval_of e23]) ?_
      refine (impl_bracketsOf.calls (bt u 0) (bt u (n1 : Int)) (kb : Int) _ HK.out).mono ?_
      rintro e w_ ⟨rfl, hd⟩
      refine ⟨_, rfl, ?_⟩
      have hb := hd.below
      refine hK.out _ _ ⟨(by rw [ha.out]; exact putSel_upk 3 hb_ rfl rfl rfl), pT HB.out hb, HR.out.below hb, bb_ BM.out hb⟩
     refine steps_cons ?_ ?_
     ·rintro b a w' ⟨ha, Q_HB, Q_HR, Q_BM⟩ hb_ hon hoff
      refine ⟨_, rfl, fun K hK => ?_⟩
      have e2 : a.tmps[2]? = some (.pointer (some ⟨gM, 0, none⟩)) := by rw [ha]; exact (putSel_off rfl).trans rfl
      replace ha := AZ.mk ha
      have HB := AZ.mk Q_HB
      have HR := AZ.mk Q_HR
      have BM := AZ.mk Q_BM
      have hm0 : w'.cell? ⟨gM, 0, none⟩ = some (.int .i64 0) := (bc BM.out 0).trans rfl
      have hm1 : w'.cell? ⟨gM, 1, none⟩ = some (.func (.func 68) #[] #[.pointer (some ⟨gA, 0, none⟩)]) := (bc BM.out 1).trans rfl
      have hm2 : w'.cell? ⟨gM, 2, none⟩ = some (.func (.func 69) #[] #[.pointer (some ⟨gA, 0, none⟩)]) := (bc BM.out 2).trans rfl
      have hm3 : w'.cell? ⟨gM, 3, none⟩ = some (.func (.func 70) #[] #[.pointer (some ⟨gA, 0, none⟩)]) := (bc BM.out 3).trans rfl
      refine value_ (w1 := w') (v := .agg #[.int .i64 0, .func (.func 68) #[] #[.pointer (some ⟨gA, 0, none⟩)], .func (.func 69) #[] #[.pointer (some ⟨gA, 0, none⟩)], .func (.func 70) #[] #[.pointer (some ⟨gA, 0, none⟩)]]) (by rfl) rfl ?_ ?_
      ·go_simp
       (try simp only [i64_w])
       try rfl
      refine hK.out _ _ ⟨(by rw [ha.out]; exact putSel_upk 4 hb_ rfl rfl rfl), Q_HB, Q_HR, Q_BM⟩
     refine steps_cons ?_ ?_
     ·rintro b a w' ⟨ha, Q_HB, Q_HR, Q_BM⟩ hb_ hon hoff
      refine ⟨_, rfl, fun K hK => ?_⟩
      have e26 : a.tmps[26]? = some (.string u) := by rw [ha]; exact (putSel_off rfl).trans rfl
      have e27 : a.tmps[27]? = some (.int .i64 (n1 : Int)) := by rw [ha]; exact (putSel_off rfl).trans rfl
      replace ha := AZ.mk ha
      have HB := AZ.mk Q_HB
      have HR := AZ.mk Q_HR
      have BM := AZ.mk Q_BM
      refine value_ (w1 := w') (v := .string (u.extract 1 n1)) (by rfl) rfl ?_ ?_
      ·go_simp
       (try simp only [i64_w])
       try rfl
      refine hK.out _ _ ⟨(by rw [ha.out]; exact putSel_upk 5 hb_ rfl rfl rfl), Q_HB, Q_HR, Q_BM⟩
     refine steps_cons ?_ ?_
     ·rintro b a w' ⟨ha, Q_HB, Q_HR, Q_BM⟩ hb_ hon hoff
      refine ⟨_, rfl, fun K hK => ?_⟩
      have e25 : a.tmps[25]? = some (.agg #[.int .i64 0, .func (.func 68) #[] #[.pointer (some ⟨gA, 0, none⟩)], .func (.func 69) #[] #[.pointer (some ⟨gA, 0, none⟩)], .func (.func 70) #[] #[.pointer (some ⟨gA, 0, none⟩)]]) := by rw [ha]; exact putSel_on (e := (8, 25, .agg #[.int .i64 0, .func (.func 68) #[] #[.pointer (some ⟨gA, 0, none⟩)], .func (.func 69) #[] #[.pointer (some ⟨gA, 0, none⟩)], .func (.func 70) #[] #[.pointer (some ⟨gA, 0, none⟩)]])) 4 rfl rfl (hon 8 (by kernel_rfl)) rfl
      have e28 : a.tmps[28]? = some (.string (u.extract 1 n1)) := by rw [ha]; exact putSel_on (e := (11, 28, .string (u.extract 1 n1))) 5 rfl rfl (hon 11 (by kernel_rfl)) rfl
      replace ha := AZ.mk ha
      have HB := AZ.mk Q_HB
      have HR := AZ.mk Q_HR
      have BM := AZ.mk Q_BM
      refine goes_ Try.func50 (by kernel_rfl) rfl #[.agg #[.int .i64 0, .func (.func 68) #[] #[.pointer (some ⟨gA, 0, none⟩)], .func (.func 69) #[] #[.pointer (some ⟨gA, 0, none⟩)], .func (.func 70) #[] #[.pointer (some ⟨gA, 0, none⟩)]], .string (u.extract 1 n1)] (by rfl) rfl rfl (by simp only [List.map_toArray, List.map_cons, List.map_nil, eval_of e25, eval_of e28]) ?_
      refine (HOF.out (u.extract 1 n1) (e0 : Int) _ gA HEE.out HR.out).mono ?_
      rintro e w_ ⟨rfl, hb⟩
      refine ⟨_, rfl, ?_⟩
      refine hK.out _ _ ⟨(by rw [ha.out]; exact putSel_upk 6 hb_ rfl rfl rfl), pT HB.out hb, HR.out.below hb, bb_ BM.out hb⟩
     refine steps_cons ?_ ?_
     ·rintro b a w' ⟨ha, Q_HB, Q_HR, Q_BM⟩ hb_ hon hoff
      refine ⟨_, rfl, fun K hK => ?_⟩
      have e18 : a.tmps[18]? = some (.func (.func 69) #[] #[.pointer (some ⟨gA, 0, none⟩)]) := by rw [ha]; exact putSel_on (e := (1, 18, .func (.func 69) #[] #[.pointer (some ⟨gA, 0, none⟩)])) 0 rfl rfl (hon 1 (by kernel_rfl)) rfl
      have e24 : a.tmps[24]? = some (.int .i64 (kb : Int)) := by rw [ha]; exact putSel_on (e := (7, 24, .int .i64 (kb : Int))) 3 rfl rfl (hon 7 (by kernel_rfl)) rfl
      have e29 : a.tmps[29]? = some (.int .i64 (e0 : Int)) := by rw [ha]; exact putSel_on (e := (12, 29, .int .i64 (e0 : Int))) 6 rfl rfl (hon 12 (by kernel_rfl)) rfl
      replace ha := AZ.mk ha
      have HB := AZ.mk Q_HB
      have HR := AZ.mk Q_HR
      have BM := AZ.mk Q_BM
      refine goesV_ Try.func69 (by kernel_rfl) rfl #[.int .i64 (kb : Int), .int .i64 (e0 : Int)] _ (by rfl) rfl rfl (eval_of e18) (by simp only [List.map_toArray, List.map_cons, List.map_nil, eval_of e24, eval_of e29]) rfl ?_
      refine (m2_calls A0 c0 P A1 c1 Wr A2 c2 In A3 c3 Ac kb e0 _ gA HR.out HBI.out HEI.out).mono ?_
      rintro e w_ ⟨rfl, hb⟩
      refine ⟨_, rfl, ?_⟩
      refine hK.out _ _ ⟨(by rw [ha.out]; exact putSel_upk 7 hb_ rfl rfl rfl), pT HB.out hb, HR.out.below hb, bb_ BM.out hb⟩
     refine steps_cons ?_ ?_
     ·rintro b a w' ⟨ha, Q_HB, Q_HR, Q_BM⟩ hb_ hon hoff
      refine ⟨_, rfl, fun K hK => ?_⟩
      have e30 : a.tmps[30]? = some (.int .i64 (rd (rd_L1 Wr (kb : Int)) (e0 : Int))) := by rw [ha]; exact putSel_on (e := (13, 30, .int .i64 (rd (rd_L1 Wr (kb : Int)) (e0 : Int)))) 7 rfl rfl (hon 13 (by kernel_rfl)) rfl
      replace ha := AZ.mk ha
      have HB := AZ.mk Q_HB
      have HR := AZ.mk Q_HR
      have BM := AZ.mk Q_BM
      refine value_ (w1 := w') (v := .int .i64 (rd (rd_L1 Wr (kb : Int)) (e0 : Int))) (by rfl) rfl ?_ ?_
      ·go_simp
       (try simp only [i64_w])
       try rfl
      refine hK.out _ _ ⟨(by rw [ha.out]; exact putSel_upk 8 hb_ rfl rfl rfl), Q_HB, Q_HR, Q_BM⟩
     exact steps_nil
    ·rintro b a w' hall ⟨ha, Q_HB, Q_HR, Q_BM⟩
     clear BM HB HR
     have hb1_ := hall 1 (by kernel_rfl)
     have hb3_ := hall 3 (by kernel_rfl)
     have hb6_ := hall 6 (by kernel_rfl)
     have hb7_ := hall 7 (by kernel_rfl)
     have hb8_ := hall 8 (by kernel_rfl)
     have hb11_ := hall 11 (by kernel_rfl)
     have hb12_ := hall 12 (by kernel_rfl)
     have hb13_ := hall 13 (by kernel_rfl)
     have hb14_ := hall 14 (by kernel_rfl)
     subst ha
     simp only [putSel, hb1_, hb3_, hb6_, hb7_, hb8_, hb11_, hb12_, hb13_, hb14_, if_true, Act.put, sA, sB, sC]
     have HB := AZ.mk Q_HB
     clear Q_HB
     have HR := AZ.mk Q_HR
     clear Q_HR
     have BM := AZ.mk Q_BM
     clear Q_BM
     clear hall hb1_ hb3_ hb6_ hb7_ hb8_ hb11_ hb12_ hb13_ hb14_
     go_wp2
     go_ret
     exact ⟨rfl, HB.out⟩
   ·rw [if_neg hb] at hu
    cases hu
  ·rw [if_neg h2] at hu
   cases hu
set_option maxHeartbeats 8000000 in
set_option maxRecDepth 100000 in
theorem of_step (k : Nat) (g : ByteArray → Option Int) (hfc : ∀ (u : ByteArray) (r : Int) (w : World) (gA : Nat), g u = some r → Rd A0 c0 P A1 c1 Wr A2 c2 In A3 c3 Ac w gA → Calls Try.prog 72 #[.agg #[.int .i64 0, .func (.func 68) #[] #[.pointer (some ⟨gA, 0, none⟩)], .func (.func 69) #[] #[.pointer (some ⟨gA, 0, none⟩)], .func (.func 70) #[] #[.pointer (some ⟨gA, 0, none⟩)]], .string u] w fun e w' => e = .returned (.int .i64 r) ∧ Below w.heap.size w w')
  (u : ByteArray) (r : Int) (w : World) (gA : Nat) (hu : ((impl_factors.f k u).bind fun fs => elFold g P fs 0) = some r) (hR : Rd A0 c0 P A1 c1 Wr A2 c2 In A3 c3 Ac w gA) : Calls Try.prog 50 #[.agg #[.int .i64 0, .func (.func 68) #[] #[.pointer (some ⟨gA, 0, none⟩)], .func (.func 69) #[] #[.pointer (some ⟨gA, 0, none⟩)], .func (.func 70) #[] #[.pointer (some ⟨gA, 0, none⟩)]], .string u] w fun e w' => e = .returned (.int .i64 r) ∧ Below w.heap.size w w' := by
 have hu72 := Try.underlying72
 have HB := AZ.mk (Below.refl w.heap.size w)
 have HR := AZ.mk hR
 have HFC := AZ.mk hfc
 obtain ⟨L, hL, hu⟩ := Option.bind_eq_some_iff.1 hu
 have HL := AZ.mk hL
 have HU := AZ.mk hu
 clear hR hfc hL hu
 go_enter Try.func50, Try.ntmps50
 go_wp2_with (first | ((with_reducible refine gate_dst (N := 2) rfl ?_); refine box_event ?hg (N := 2) ?hd (cs := #[.int .i64 0, .func (.func 68) #[] #[.pointer (some ⟨gA, 0, none⟩)], .func (.func 69) #[] #[.pointer (some ⟨gA, 0, none⟩)], .func (.func 70) #[] #[.pointer (some ⟨gA, 0, none⟩)]]) (t := 72) ?hr ?_; (case hd => rfl); (case hg => rfl); (case hr => first | (go_simp; done) | (go_simp; rfl)); intro gM hg WgM hbx hb; have BM := AZ.mk hbx; have GM := AZ.mk (show w.heap.size ≤ gM by rw [hg]; exact pZ HB.out); have n0_ := AZ.mk (pT HB.out hb); have n1_ := AZ.mk (HR.out.below hb); clear HB HR; have HB := n0_; have HR := n1_; clear n0_ n1_; clear hb hbx hg; have hm0 := (bc BM.out 0).trans rfl; have hm1 := (bc BM.out 1).trans rfl; have hm2 := (bc BM.out 2).trans rfl; have hm3 := (bc BM.out 3).trans rfl) | ((with_reducible refine gate_callee (f := 71) rfl ?_); refine goesL_ (some 11) rfl rfl Try.func71 (by kernel_rfl) rfl #[.string u] rfl (by (try simp only [List.map_toArray, List.map_cons, List.map_nil]); first | done | rfl) ?_; refine (impl_factors.calls k u L _ HL.out).mono ?_; rintro e W1 ⟨v11, rfl, ho, hb⟩; refine ⟨_, rfl, ?_⟩; obtain ⟨A11, d11, rfl, hl11, hr11⟩ := Kd.R_reads ho; have HF := AZ.mk hr11; have n0_ := AZ.mk (pT HB.out hb); have n1_ := AZ.mk (HR.out.below hb); have n2_ := AZ.mk (bb_ BM.out hb); clear HB HR BM; have HB := n0_; have HR := n1_; have BM := n2_; clear n0_ n1_ n2_; have HB1 := AZ.mk (Below.refl W1.heap.size W1); clear hb ho hr11 hl11 hm0 hm1 hm2 hm3))
 go_loopg [5, 13] L.length (fun kq v5 v13 w' => ∃ (i o : Nat), v13 = .int .i64 (i : Int) ∧ v5 = .int .i64 (o : Int) ∧ AZ (kq + i = L.length) ∧ AZ (elFold g P (L.drop i) (o : Int) = some r) ∧ AZ (Below w.heap.size w w') ∧ AZ (Rd A0 c0 P A1 c1 Wr A2 c2 In A3 c3 Ac w' gA) ∧ AZ (w'.heap[gM]? = some (.cells #[.int .i64 0, .func (.func 68) #[] #[.pointer (some ⟨gA, 0, none⟩)], .func (.func 69) #[] #[.pointer (some ⟨gA, 0, none⟩)], .func (.func 70) #[] #[.pointer (some ⟨gA, 0, none⟩)]] 72 (0, 0))) ∧ AZ (Below W1.heap.size W1 w'))
 case atStart => exact ⟨0, 0, rfl, rfl, ⟨by omega⟩, HU, HB, HR, BM, HB1⟩
 case round =>
  clear HB HR BM HB1 HU
  obtain ⟨i, o, rfl, rfl, HK, HU, HB, HR, BM, HB1⟩ := hrel
  have hmx := HF.out.2.1
  by_cases hi : i < L.length
  ·have ci := decide_eq_true (show (i : Int) < (L.length : Int) by omega)
   have ci2 := decide_eq_true hi
   have ci3 := eq_true hi
   obtain ⟨f, hf⟩ : ∃ f, f = rdOf ByteArray.empty L (i : Int) := ⟨_, rfl⟩
   have hdr : L.drop i = f :: L.drop (i + 1) := by
    rw [hf, List.drop_eq_getElem_cons hi]
    unfold rdOf
    rw [Int.toNat_natCast, List.getD_eq_getElem?_getD, List.getElem?_eq_getElem hi]
    rfl
   have hU := HU.out
   rw [hdr, elFold] at hU
   obtain ⟨x, hx, hU⟩ := Option.bind_eq_some_iff.1 hU
   by_cases hb : (0 ≤ (o : Int) ∧ (o : Int) < (P.length : Int)) ∧ 0 ≤ x ∧ x < ((rd_L1 P (o : Int)).length : Int)
   ·rw [if_pos hb] at hU
    obtain ⟨x, rfl⟩ : ∃ b : Nat, x = (b : Int) := ⟨x.toNat, by omega⟩
    have HOI := AZ.mk (show o < P.length by omega)
    have HXI := AZ.mk (show x < (rd_L1 P (o : Int)).length by omega)
    have HGX := AZ.mk hx
    obtain ⟨ad, e1, hs⟩ := Kd.at_string HF.out (i : Int) (by omega) (by omega)
    subst e1
    rw [Int.toNat_natCast, ← hf] at hs
    replace hs := (HB1.out.cell (World.block_lt_of_cell? W1 _ hs)).trans hs
    have HU2 := AZ.mk hU
    have p1 := eq_true (show 0 ≤ (i : Int) by omega)
    have q1 := eq_true (show (i : Int) < (L.length : Int) by omega)
    have hw1 : IntKind.i64.wrap ((i : Int) + 1) = ((i + 1 : Nat) : Int) := (i64_w _).trans (by clear ci ci2 ci3 p1 q1; unfold wrap64; omega)
    clear HU hU hb hx hdr hf hmx
    go_wp2
    refine start_ (n := 8) (S := fun w' => True) (ds := []) (bz 8 0) (by kernel_rfl) rfl rfl trivial (fun hHeld => ?_)
    refine with_tabW of_.tab5 of_.bits5 (fun HT_ HW_ => ?_)
    have n0_ := AZ.mk (pD HB.out)
    have n1_ := AZ.mk (HR.out.below (below_drew (Below.refl _ _)))
    have n2_ := AZ.mk (bd_ BM.out)
    have n3_ := AZ.mk (pD HB1.out)
    clear HB HR BM HB1
    have HB := n0_
    have HR := n1_
    have BM := n2_
    have HB1 := n3_
    clear n0_ n1_ n2_ n3_
    generalize World.drew _ = wD at HB HR BM HB1 hHeld ⊢
    refine pure_ (i := 0) (N := some 17) (v := ?_) (a' := ?_) (bz 8 1) rfl rfl (any_of HT_.out (by kernel_rfl)) (fun _ _ _ h => h) (Or.inl ⟨by rfl, ?_⟩) ?_ ?_
    rotate_left
    ·intro w'
     go_simp
     with_reducible rfl
    rotate_left
    ·simp only [Act.put, sA, sB, sC, i64_w, i32_w]
     rfl
    refine pure_ (i := 2) (N := some 19) (v := ?_) (a' := ?_) (bz 8 5) rfl rfl (any_of HT_.out (by kernel_rfl)) (fun _ _ _ h => h) (Or.inl ⟨by rfl, ?_⟩) ?_ ?_
    rotate_left
    ·intro w'
     go_simp
     with_reducible rfl
    rotate_left
    ·simp only [Act.put, sA, sB, sC, i64_w, i32_w]
     rfl
    refine pure_ (i := 4) (N := some 21) (v := ?_) (a' := ?_) (bz 8 21) rfl rfl (any_of HT_.out (by kernel_rfl)) (fun _ _ _ h => h) (Or.inl ⟨by rfl, ?_⟩) ?_ ?_
    rotate_left
    ·intro w'
     go_simp
     with_reducible rfl
    rotate_left
    ·simp only [Act.put, sA, sB, sC, i64_w, i32_w]
     rfl
    refine inv_at [1, 3, 5, 6, 7] (fun a0_ b a w' => a = putSel a0_ b [(1, 18, .func (.func 70) #[] #[.pointer (some ⟨gA, 0, none⟩)]), (3, 20, .agg #[.int .i64 0, .func (.func 68) #[] #[.pointer (some ⟨gA, 0, none⟩)], .func (.func 69) #[] #[.pointer (some ⟨gA, 0, none⟩)], .func (.func 70) #[] #[.pointer (some ⟨gA, 0, none⟩)]]), (5, 22, .int .i64 (x : Int)), (6, 23, .int .i64 (rd (rd_L1 P (o : Int)) (x : Int))), (7, 5, .int .i64 (rd (rd_L1 P (o : Int)) (x : Int)))] ∧ (Below w.heap.size w w') ∧ (Rd A0 c0 P A1 c1 Wr A2 c2 In A3 c3 Ac w' gA) ∧ (w'.heap[gM]? = some (.cells #[.int .i64 0, .func (.func 68) #[] #[.pointer (some ⟨gA, 0, none⟩)], .func (.func 69) #[] #[.pointer (some ⟨gA, 0, none⟩)], .func (.func 70) #[] #[.pointer (some ⟨gA, 0, none⟩)]] 72 (0, 0))) ∧ (Below W1.heap.size W1 w')) HT_.out HW_.out (by kernel_rfl) (by kernel_rfl) ?_ ?_ ?_
    ·exact ⟨by simp only [putSel, Bool.false_eq_true, if_false], HB.out, HR.out, BM.out, HB1.out⟩
    ·skip
     clear BM HB HB1 HR
     refine steps_cons ?_ ?_
     ·rintro b a w' ⟨ha, Q_HB, Q_HR, Q_BM, Q_HB1⟩ hb_ hon hoff
      refine ⟨_, rfl, fun K hK => ?_⟩
      have e17 : a.tmps[17]? = some (.pointer (some ⟨gM, 3, none⟩)) := by rw [ha]; exact (putSel_off rfl).trans rfl
      replace ha := AZ.mk ha
      have HB := AZ.mk Q_HB
      have HR := AZ.mk Q_HR
      have BM := AZ.mk Q_BM
      have HB1 := AZ.mk Q_HB1
      have hc_ : w'.cell? ⟨gM, 3, none⟩ = some (.func (.func 70) #[] #[.pointer (some ⟨gA, 0, none⟩)]) := (bc BM.out 3).trans rfl
      refine value_ (w1 := w') (v := .func (.func 70) #[] #[.pointer (some ⟨gA, 0, none⟩)]) (by rfl) rfl ?_ ?_
      ·go_simp
       (try simp only [i64_w])
       try rfl
      refine hK.out _ _ ⟨(by rw [ha.out]; exact putSel_upk 0 hb_ rfl rfl rfl), Q_HB, Q_HR, Q_BM, Q_HB1⟩
     refine steps_cons ?_ ?_
     ·rintro b a w' ⟨ha, Q_HB, Q_HR, Q_BM, Q_HB1⟩ hb_ hon hoff
      refine ⟨_, rfl, fun K hK => ?_⟩
      have e2 : a.tmps[2]? = some (.pointer (some ⟨gM, 0, none⟩)) := by rw [ha]; exact (putSel_off rfl).trans rfl
      replace ha := AZ.mk ha
      have HB := AZ.mk Q_HB
      have HR := AZ.mk Q_HR
      have BM := AZ.mk Q_BM
      have HB1 := AZ.mk Q_HB1
      have hm0 : w'.cell? ⟨gM, 0, none⟩ = some (.int .i64 0) := (bc BM.out 0).trans rfl
      have hm1 : w'.cell? ⟨gM, 1, none⟩ = some (.func (.func 68) #[] #[.pointer (some ⟨gA, 0, none⟩)]) := (bc BM.out 1).trans rfl
      have hm2 : w'.cell? ⟨gM, 2, none⟩ = some (.func (.func 69) #[] #[.pointer (some ⟨gA, 0, none⟩)]) := (bc BM.out 2).trans rfl
      have hm3 : w'.cell? ⟨gM, 3, none⟩ = some (.func (.func 70) #[] #[.pointer (some ⟨gA, 0, none⟩)]) := (bc BM.out 3).trans rfl
      refine value_ (w1 := w') (v := .agg #[.int .i64 0, .func (.func 68) #[] #[.pointer (some ⟨gA, 0, none⟩)], .func (.func 69) #[] #[.pointer (some ⟨gA, 0, none⟩)], .func (.func 70) #[] #[.pointer (some ⟨gA, 0, none⟩)]]) (by rfl) rfl ?_ ?_
      ·go_simp
       (try simp only [i64_w])
       try rfl
      refine hK.out _ _ ⟨(by rw [ha.out]; exact putSel_upk 1 hb_ rfl rfl rfl), Q_HB, Q_HR, Q_BM, Q_HB1⟩
     refine steps_cons ?_ ?_
     ·rintro b a w' ⟨ha, Q_HB, Q_HR, Q_BM, Q_HB1⟩ hb_ hon hoff
      refine ⟨_, rfl, fun K hK => ?_⟩
      have e20 : a.tmps[20]? = some (.agg #[.int .i64 0, .func (.func 68) #[] #[.pointer (some ⟨gA, 0, none⟩)], .func (.func 69) #[] #[.pointer (some ⟨gA, 0, none⟩)], .func (.func 70) #[] #[.pointer (some ⟨gA, 0, none⟩)]]) := by rw [ha]; exact putSel_on (e := (3, 20, .agg #[.int .i64 0, .func (.func 68) #[] #[.pointer (some ⟨gA, 0, none⟩)], .func (.func 69) #[] #[.pointer (some ⟨gA, 0, none⟩)], .func (.func 70) #[] #[.pointer (some ⟨gA, 0, none⟩)]])) 1 rfl rfl (hon 3 (by kernel_rfl)) rfl
      have e21 : a.tmps[21]? = some (.string f) := by rw [ha]; exact (putSel_off rfl).trans rfl
      replace ha := AZ.mk ha
      have HB := AZ.mk Q_HB
      have HR := AZ.mk Q_HR
      have BM := AZ.mk Q_BM
      have HB1 := AZ.mk Q_HB1
      refine goes_ Try.func72 (by kernel_rfl) rfl #[.agg #[.int .i64 0, .func (.func 68) #[] #[.pointer (some ⟨gA, 0, none⟩)], .func (.func 69) #[] #[.pointer (some ⟨gA, 0, none⟩)], .func (.func 70) #[] #[.pointer (some ⟨gA, 0, none⟩)]], .string f] (by rfl) rfl rfl (by simp only [List.map_toArray, List.map_cons, List.map_nil, eval_of e20, eval_of e21]) ?_
      refine (HFC.out f (x : Int) _ gA HGX.out HR.out).mono ?_
      rintro e w_ ⟨rfl, hb⟩
      refine ⟨_, rfl, ?_⟩
      refine hK.out _ _ ⟨(by rw [ha.out]; exact putSel_upk 2 hb_ rfl rfl rfl), pT HB.out hb, HR.out.below hb, bb_ BM.out hb, pT HB1.out hb⟩
     refine steps_cons ?_ ?_
     ·rintro b a w' ⟨ha, Q_HB, Q_HR, Q_BM, Q_HB1⟩ hb_ hon hoff
      refine ⟨_, rfl, fun K hK => ?_⟩
      have e18 : a.tmps[18]? = some (.func (.func 70) #[] #[.pointer (some ⟨gA, 0, none⟩)]) := by rw [ha]; exact putSel_on (e := (1, 18, .func (.func 70) #[] #[.pointer (some ⟨gA, 0, none⟩)])) 0 rfl rfl (hon 1 (by kernel_rfl)) rfl
      have e19 : a.tmps[19]? = some (.int .i64 (o : Int)) := by rw [ha]; exact (putSel_off rfl).trans rfl
      have e22 : a.tmps[22]? = some (.int .i64 (x : Int)) := by rw [ha]; exact putSel_on (e := (5, 22, .int .i64 (x : Int))) 2 rfl rfl (hon 5 (by kernel_rfl)) rfl
      replace ha := AZ.mk ha
      have HB := AZ.mk Q_HB
      have HR := AZ.mk Q_HR
      have BM := AZ.mk Q_BM
      have HB1 := AZ.mk Q_HB1
      refine goesV_ Try.func70 (by kernel_rfl) rfl #[.int .i64 (o : Int), .int .i64 (x : Int)] _ (by rfl) rfl rfl (eval_of e18) (by simp only [List.map_toArray, List.map_cons, List.map_nil, eval_of e19, eval_of e22]) rfl ?_
      refine (m3_calls A0 c0 P A1 c1 Wr A2 c2 In A3 c3 Ac o x _ gA HR.out HOI.out HXI.out).mono ?_
      rintro e w_ ⟨rfl, hb⟩
      refine ⟨_, rfl, ?_⟩
      refine hK.out _ _ ⟨(by rw [ha.out]; exact putSel_upk 3 hb_ rfl rfl rfl), pT HB.out hb, HR.out.below hb, bb_ BM.out hb, pT HB1.out hb⟩
     refine steps_cons ?_ ?_
     ·rintro b a w' ⟨ha, Q_HB, Q_HR, Q_BM, Q_HB1⟩ hb_ hon hoff
      refine ⟨_, rfl, fun K hK => ?_⟩
      have e23 : a.tmps[23]? = some (.int .i64 (rd (rd_L1 P (o : Int)) (x : Int))) := by rw [ha]; exact putSel_on (e := (6, 23, .int .i64 (rd (rd_L1 P (o : Int)) (x : Int)))) 3 rfl rfl (hon 6 (by kernel_rfl)) rfl
      replace ha := AZ.mk ha
      have HB := AZ.mk Q_HB
      have HR := AZ.mk Q_HR
      have BM := AZ.mk Q_BM
      have HB1 := AZ.mk Q_HB1
      refine value_ (w1 := w') (v := .int .i64 (rd (rd_L1 P (o : Int)) (x : Int))) (by rfl) rfl ?_ ?_
      ·go_simp
       (try simp only [i64_w])
       try rfl
      refine hK.out _ _ ⟨(by rw [ha.out]; exact putSel_upk 4 hb_ rfl rfl rfl), Q_HB, Q_HR, Q_BM, Q_HB1⟩
     exact steps_nil
    ·rintro b a w' hall ⟨ha, Q_HB, Q_HR, Q_BM, Q_HB1⟩
     clear BM HB HB1 HR
     have hb1_ := hall 1 (by kernel_rfl)
     have hb3_ := hall 3 (by kernel_rfl)
     have hb5_ := hall 5 (by kernel_rfl)
     have hb6_ := hall 6 (by kernel_rfl)
     have hb7_ := hall 7 (by kernel_rfl)
     subst ha
     simp only [putSel, hb1_, hb3_, hb5_, hb6_, hb7_, if_true, Act.put, sA, sB, sC]
     have HB := AZ.mk Q_HB
     clear Q_HB
     have HR := AZ.mk Q_HR
     clear Q_HR
     have BM := AZ.mk Q_BM
     clear Q_BM
     have HB1 := AZ.mk Q_HB1
     clear Q_HB1
     clear hall hb1_ hb3_ hb5_ hb6_ hb7_
     go_wp2
     obtain ⟨y, hy⟩ : ∃ y : Nat, rd (rd_L1 P (o : Int)) (x : Int) = (y : Int) := ent_nat HU2.out
     go_roundg (L.length - (i + 1))
     case measure => have := HK.out; omega
     case rel => exact ⟨i + 1, y, by (try simp only [hw1]); try rfl, by rw [hy], ⟨by omega⟩, ⟨by rw [← hy]; exact HU2.out⟩, HB, HR, BM, HB1⟩
   ·rw [if_neg hb] at hU
    cases hU
  ·have ci := decide_eq_false (show ¬ (i : Int) < (L.length : Int) by omega)
   have ci2 := decide_eq_false hi
   have ci3 := eq_false hi
   have hU := HU.out
   rw [List.drop_eq_nil_of_le (by omega), elFold] at hU
   obtain rfl := Option.some.inj hU
   clear hU HU
   go_wp2
   go_ret
   exact ⟨rfl, HB.out⟩
end
end Go.Proofs.Ytgfilbgjnloopaa.P
namespace Go.Proofs.Ytgfilbgjnloopaa.P
open Go.RowKit Go.Proofs.YtgfilbgjnloopaaW.PrintWords Go.Proofs.YtgfilbgjnloopaaW.PrintLast Go.Proofs.YtgfilbgjnloopaaW.PrintMore
attribute [local go_sem] max2_int min2_int max_two min_two max_three min_three max_four min_four
set_option linter.unusedVariables false
set_option linter.unusedSimpArgs false
def impl_ValidWord.l0 : Nat → ByteArray → Int → Int → Option (Bool)
 | 0, _, _, _ => none
 | k + 1, x0, x5, x6 => if x6 < x5 then (if 0 ≤ x6 then (if x6 < (x0.size : Int) then ((strings_IndexByte.f (⟨#[40, 91, 41, 93, 97, 98]⟩ : ByteArray) (bt x0 x6)).bind fun t432 => (if t432 < 0 then (some false) else (impl_ValidWord.l0 k x0 x5 (wrap64 (x6 + 1))))) else (none)) else (none)) else (some (decide ((x0.size : Int) ≤ 60)))
def impl_ValidWord.f (k : Nat) (a0 : ByteArray) : Option (Bool) := impl_ValidWord.l0 k a0 (a0.size : Int) 0
set_option maxHeartbeats 8000000 in
set_option maxRecDepth 100000 in
theorem impl_ValidWord.calls (k : Nat) (a0 : ByteArray) (r : Bool) (w : World) (h : impl_ValidWord.f k a0 = some r) :
  Calls Try.prog 47 #[.string a0] w fun e w' => e = .returned (.bool r) ∧ Drawn0 w w' := by
 have H : (impl_ValidWord.l0 k a0 (a0.size : Int) 0) = some r := h
 clear h
 have H' := AZ.mk H
 clear H
 go_enter Try.func47, Try.ntmps47
 go_wp2
 go_loopg [6] k (fun kq v6 w' => ∃ (x6_1 : Int), v6 = .int .i64 x6_1 ∧ AZ (impl_ValidWord.l0 kq a0 (a0.size : Int) x6_1 = some r) ∧ AZ (kq ≤ k) ∧ Drawn0 w w')
 case atStart => exact ⟨(0), (by first | rfl | (simp; done) | (simp [*]; done)), H', ⟨Nat.le_refl _⟩, by repeat (first | exact Drawn0.refl _ | apply Drawn0.step)⟩
 case round =>
  clear H'
  obtain ⟨x6_1, rfl, HA, HK1, ⟨m1, rfl⟩⟩ := hrel
  cases gk with
  | zero => exact absurd HA.out (by simp [impl_ValidWord.l0])
  | succ k1 =>
   have H := HA.out
   clear HA
   simp only [impl_ValidWord.l0] at H
   by_cases c2 : x6_1 < (a0.size : Int)
   rotate_left
   ·rw [if_neg c2] at H
    have c2b0 : decide (x6_1 < (a0.size : Int)) = false := decide_eq_false c2
    clear c2
    obtain rfl := Option.some.inj H
    go_wp2
    go_ret
    exact ⟨by first | rfl | (simp; done) | (simp [*]; done), by repeat (first | exact Drawn0.refl _ | apply Drawn0.step)⟩
   rw [if_pos c2] at H
   have c2b0 : decide (x6_1 < (a0.size : Int)) = true := decide_eq_true c2
   clear c2
   by_cases c3 : 0 ≤ x6_1
   rotate_left
   ·rw [if_neg c3] at H
    exact absurd H (by simp)
   rw [if_pos c3] at H
   have c3b0 : decide (0 ≤ x6_1) = true := decide_eq_true c3
   clear c3
   by_cases c4 : x6_1 < (a0.size : Int)
   rotate_left
   ·rw [if_neg c4] at H
    exact absurd H (by simp)
   rw [if_pos c4] at H
   have c4b0 : decide (x6_1 < (a0.size : Int)) = true := decide_eq_true c4
   clear c4
   replace H := Option.bind_eq_some_iff.mp H
   obtain ⟨t432, A60, H⟩ := H
   replace H : (if t432 < 0 then (some false) else (impl_ValidWord.l0 k1 a0 (a0.size : Int) (wrap64 (x6_1 + 1)))) = some r := H
   have A6 := AZ.mk A60
   clear A60
   by_cases c7 : t432 < 0
   ·rw [if_pos c7] at H
    have c7b0 : decide (t432 < 0) = true := decide_eq_true c7
    clear c7
    obtain rfl := Option.some.inj H
    have p5 : 0 ≤ (x6_1 : Int) := oT (by first | (with_reducible assumption) | assumption)
    have q5 : x6_1 < (a0.size : Int) := oT (by first | (with_reducible assumption) | assumption)
    have hx5 := bt_at a0 x6_1
    replace p5 := eq_true p5
    replace q5 := eq_true q5
    go_wp2_with (first | ((with_reducible refine gate_callee (f := 66) rfl ?_); refine goesL_ (some 12) rfl rfl Try.func66 (by kernel_rfl) rfl #[.string (⟨#[40, 91, 41, 93, 97, 98]⟩ : ByteArray), .int .u8 (bt a0 x6_1)] rfl (by (try simp only [List.map_toArray, List.map_cons, List.map_nil]); first | done | rfl | (simp only [List.length_drop, List.length_take]; rfl)) ?_; (with_reducible refine (strings_IndexByte.calls (⟨#[40, 91, 41, 93, 97, 98]⟩ : ByteArray) (bt a0 x6_1) t432 _ A6.out).mono ?_); rintro e w' ⟨rfl, ⟨nd, rfl⟩⟩; refine ⟨_, rfl, ?_⟩))
    go_ret
    exact ⟨by first | rfl | (simp; done) | (simp [*]; done), by repeat (first | exact Drawn0.refl _ | apply Drawn0.step)⟩
   rw [if_neg c7] at H
   have c7b0 : decide (t432 < 0) = false := decide_eq_false c7
   clear c7
   have H' := AZ.mk H
   clear H
   have p5 : 0 ≤ (x6_1 : Int) := oT (by first | (with_reducible assumption) | assumption)
   have q5 : x6_1 < (a0.size : Int) := oT (by first | (with_reducible assumption) | assumption)
   have hx5 := bt_at a0 x6_1
   replace p5 := eq_true p5
   replace q5 := eq_true q5
   go_wp2_with (first | ((with_reducible refine gate_callee (f := 66) rfl ?_); refine goesL_ (some 12) rfl rfl Try.func66 (by kernel_rfl) rfl #[.string (⟨#[40, 91, 41, 93, 97, 98]⟩ : ByteArray), .int .u8 (bt a0 x6_1)] rfl (by (try simp only [List.map_toArray, List.map_cons, List.map_nil]); first | done | rfl | (simp only [List.length_drop, List.length_take]; rfl)) ?_; (with_reducible refine (strings_IndexByte.calls (⟨#[40, 91, 41, 93, 97, 98]⟩ : ByteArray) (bt a0 x6_1) t432 _ A6.out).mono ?_); rintro e w' ⟨rfl, ⟨nd, rfl⟩⟩; refine ⟨_, rfl, ?_⟩))
   go_roundg k1
   case measure => have := HK1.out; omega
   case rel => exact ⟨(wrap64 (x6_1 + 1)), (by first | rfl | (simp; done) | (simp [*]; done)), H', ⟨by have := HK1.out; omega⟩, by repeat (first | exact Drawn0.refl _ | apply Drawn0.step)⟩
end Go.Proofs.Ytgfilbgjnloopaa.P
namespace Go.Proofs.Ytgfilbgjnloopaa.P
open Go.RowKit Go.Proofs.YtgfilbgjnloopaaW.PrintWords Go.Proofs.YtgfilbgjnloopaaW.PrintLast Go.Proofs.YtgfilbgjnloopaaW.PrintMore
attribute [local go_sem] max2_int min2_int max_two min_two max_three min_three max_four min_four
set_option linter.unusedVariables false
set_option linter.unusedSimpArgs false
def impl_isMatched.f (k : Nat) (a0 : ByteArray) : Option (Bool) := (impl_match.f k a0).bind fun bt478 => (some ((wrap64 ((bt478.2.1.length : Int) + (bt478.2.2.1.length : Int))) == 0))
set_option maxHeartbeats 8000000 in
set_option maxRecDepth 100000 in
theorem impl_isMatched.calls (k : Nat) (a0 : ByteArray) (r : Bool) (w : World) (h : impl_isMatched.f k a0 = some r) :
  Calls Try.prog 48 #[.string a0] w fun e w' => e = .returned (.bool r) ∧ Below w.heap.size w w' := by
 have hu91 := Try.underlying91
 have HB := AZ.mk (Below.refl w.heap.size w)
 have H : ((impl_match.f k a0).bind fun bt478 => (some ((wrap64 ((bt478.2.1.length : Int) + (bt478.2.2.1.length : Int))) == 0))) = some r := h
 clear h
 replace H := Option.bind_eq_some_iff.mp H
 obtain ⟨⟨t478, t481, t484, t487, t490⟩, A20, H⟩ := H
 replace H : (some ((wrap64 ((t481.length : Int) + (t484.length : Int))) == 0)) = some r := H
 have A2 := AZ.mk A20
 clear A20
 obtain rfl := Option.some.inj H
 go_enter Try.func48, Try.ntmps48
 go_wp2_with (first | ((with_reducible refine gate_callee (f := 67) rfl ?_); refine goesL_ (some 5) rfl rfl Try.func67 (by kernel_rfl) rfl #[.string a0] rfl (by (try simp only [List.map_toArray, List.map_cons, List.map_nil]); first | done | rfl | (simp only [List.length_drop, List.length_take]; rfl)) ?_; (with_reducible refine (impl_match.calls k a0 t478 t481 t484 t487 t490 _ A2.out).mono ?_); rintro e w3 ⟨v479, v482, v485, v488, v491, rfl, ho0, ho1, ho2, ho3, ho4, hb⟩; refine ⟨_, rfl, ?_⟩; have n0_ := AZ.mk (Kd.R_lower ho0 (pZ (by repeat (first | (with_reducible first | exact HB.out | apply pA | apply pN | apply pD) | exact HB.out)))); have n1_ := AZ.mk (Kd.R_lower ho1 (pZ (by repeat (first | (with_reducible first | exact HB.out | apply pA | apply pN | apply pD) | exact HB.out)))); have n2_ := AZ.mk (Kd.R_lower ho2 (pZ (by repeat (first | (with_reducible first | exact HB.out | apply pA | apply pN | apply pD) | exact HB.out)))); have n3_ := AZ.mk (Kd.R_lower ho3 (pZ (by repeat (first | (with_reducible first | exact HB.out | apply pA | apply pN | apply pD) | exact HB.out)))); have n4_ := AZ.mk (Kd.R_lower ho4 (pZ (by repeat (first | (with_reducible first | exact HB.out | apply pA | apply pN | apply pD) | exact HB.out)))); have n5_ := AZ.mk (pT (by repeat (first | (with_reducible first | exact HB.out | apply pA | apply pN | apply pD) | exact HB.out)) hb); clear HB; have HO480 := n0_; have HO483 := n1_; have HO486 := n2_; have HO489 := n3_; have HO492 := n4_; have HB := n5_; clear n0_ n1_ n2_ n3_ n4_ n5_; (try clear hb); (try clear hb2); (try clear hk); (try clear hi); (try clear ho0); (try clear ho1); (try clear ho2); (try clear ho3); (try clear ho4)) | ((with_reducible refine gate_dst (N := 3) rfl ?_); refine box_event ?hg (N := 3) ?hd (cs := #[.slice none 0 0, .slice none 0 0, .slice none 0 0, .slice none 0 0, .slice none 0 0]) (t := 91) ?hr ?_; (case hd => rfl); (case hg => rfl); (case hr => first | (go_simp; done) | (go_simp; rfl)); intro gb493 hg w4 hbox hb; have n0_ := AZ.mk (Kd.R_below (by (with_reducible repeat (first | apply Kd.R_alloc | apply Kd.R_drewN | apply Kd.R_drew)); exact HO480.out) hb); have n1_ := AZ.mk (Kd.R_below (by (with_reducible repeat (first | apply Kd.R_alloc | apply Kd.R_drewN | apply Kd.R_drew)); exact HO483.out) hb); have n2_ := AZ.mk (Kd.R_below (by (with_reducible repeat (first | apply Kd.R_alloc | apply Kd.R_drewN | apply Kd.R_drew)); exact HO486.out) hb); have n3_ := AZ.mk (Kd.R_below (by (with_reducible repeat (first | apply Kd.R_alloc | apply Kd.R_drewN | apply Kd.R_drew)); exact HO489.out) hb); have n4_ := AZ.mk (Kd.R_below (by (with_reducible repeat (first | apply Kd.R_alloc | apply Kd.R_drewN | apply Kd.R_drew)); exact HO492.out) hb); have n5_ := AZ.mk (pT (by repeat (first | (with_reducible first | exact HB.out | apply pA | apply pN | apply pD) | exact HB.out)) hb); have n6_ := AZ.mk (hbox); have n7_ := AZ.mk ((by rw [hg]; exact (pZ (by repeat (first | (with_reducible first | exact HB.out | apply pA | apply pN | apply pD) | exact HB.out))) : w.heap.size ≤ gb493)); have n8_ := AZ.mk ((by rw [hg]; exact (pZ (by repeat (first | (with_reducible first | exact HB.out | apply pA | apply pN | apply pD) | exact HB.out))) : w.heap.size ≤ gb493)); clear HO480; clear HO483; clear HO486; clear HO489; clear HO492; clear HB; have HO480 := n0_; have HO483 := n1_; have HO486 := n2_; have HO489 := n3_; have HO492 := n4_; have HB := n5_; have BK493 := n6_; have GW493 := n7_; have GE493 := n8_; clear n0_ n1_ n2_ n3_ n4_ n5_ n6_ n7_ n8_; clear hb hbox hg; obtain ⟨Ao5, co5, eo5⟩ := Kd.R_slice HO480.out; subst eo5; have hcz6_0 : w4.cell? ⟨gb493, 0, none⟩ = some (.slice none 0 0) := (bc BK493.out 0).trans rfl; have hcz6_1 : w4.cell? ⟨gb493, 1, none⟩ = some (.slice none 0 0) := (bc BK493.out 1).trans rfl; have hcz6_2 : w4.cell? ⟨gb493, 2, none⟩ = some (.slice none 0 0) := (bc BK493.out 2).trans rfl; have hcz6_3 : w4.cell? ⟨gb493, 3, none⟩ = some (.slice none 0 0) := (bc BK493.out 3).trans rfl; have hcz6_4 : w4.cell? ⟨gb493, 4, none⟩ = some (.slice none 0 0) := (bc BK493.out 4).trans rfl; have hfz6_0 := bf BK493.out 0; have hfz6_1 := bf BK493.out 1; have hfz6_2 := bf BK493.out 2; have hfz6_3 := bf BK493.out 3; have hfz6_4 := bf BK493.out 4; obtain ⟨Ao7, co7, eo7⟩ := Kd.R_slice HO483.out; subst eo7; obtain ⟨Ao8, co8, eo8⟩ := Kd.R_slice HO486.out; subst eo8; obtain ⟨Ao9, co9, eo9⟩ := Kd.R_slice HO489.out; subst eo9; obtain ⟨Ao10, co10, eo10⟩ := Kd.R_slice HO492.out; subst eo10))
 go_ret
 exact ⟨by first | rfl | (simp [errW_none, errW_some] <;> rfl) | (simp [*, errW_none, errW_some] <;> rfl), by repeat (first | (with_reducible first | exact HB.out | apply pA | apply pN | apply pD | refine pS ?_ GE493.out) | exact HB.out)⟩
end Go.Proofs.Ytgfilbgjnloopaa.P
namespace Go.Proofs.Ytgfilbgjnloopaa.P
open Go.RowKit Go.Proofs.YtgfilbgjnloopaaW.PrintWords Go.Proofs.YtgfilbgjnloopaaW.PrintLast Go.Proofs.YtgfilbgjnloopaaW.PrintMore
set_option linter.unusedVariables false
set_option linter.unusedSimpArgs false
theorem size72 : (Try.prog.info? 72).map (·.size) = some 4 := by kernel_rfl
theorem store72 {ops : Array Oper} {rest : List Oper} {o : Oper} {a : Act} {Q : Exit → Act → World → Prop} {W : World} (hgd : o.guard = none) (p v : Tmp) (ho : o.op = .store 72 (.tmp p) (.tmp v)) {g : Nat} {old cs : Array Value} (hx : a.eval (.tmp p) = .pointer (some ⟨g, 0, none⟩)) (hy : a.eval (.tmp v) = .agg cs) (hb : W.heap[g]? = some (.cells old 72 (0, 0)))
  (hs : cs.size = 4) (hs0 : old.size = 4) (h1 : cs.all (·.oneCell') = true)
  (h : ∀ w', w'.heap[g]? = some (.cells cs 72 (0, 0)) → (∀ B w0, Below B w0 W → B ≤ g → Below B w0 w') → (∀ k, k ≠ g → w'.heap[k]? = W.heap[k]?) → wpList Try.prog ops Q rest (a.put o.dst undef) w') : wpList Try.prog ops Q (o :: rest) a W := by
 refine wpList_plain hgd fun K hK => wp_store_row 72 _ _ ho g cs hx hy 72 old hb (by rw [size72, hs]) (by omega) h1 ?_
 exact hK _ _ (h _ (setRow_heap _ _ _ _ _ _ hb) (fun B w0 hB hle => hB.trans ⟨rfl, rfl, rfl, by simp, fun k hk => setRow_other _ _ _ _ (by omega)⟩) (fun k hk => setRow_other _ _ _ _ hk))
theorem mc_one (gA : Nat) : (#[.int .i64 0, .func (.func 68) #[] #[.pointer (some ⟨gA, 0, none⟩)], .func (.func 69) #[] #[.pointer (some ⟨gA, 0, none⟩)], .func (.func 70) #[] #[.pointer (some ⟨gA, 0, none⟩)]] : Array Value).all (·.oneCell') = true := by
 simp [Value.oneCell']
section
variable (A0 : Option Addr) (c0 : Nat) (P : List (List Int)) (A1 : Option Addr) (c1 : Nat) (Wr : List (List Int)) (A2 : Option Addr) (c2 : Nat) (In : List Int) (A3 : Option Addr) (c3 : Nat) (Ac : List Bool)
theorem of_calls : ∀ (k : Nat) (u : ByteArray) (r : Int) (w : World) (gA : Nat), impl_of.f k P Wr In u = some r → Rd A0 c0 P A1 c1 Wr A2 c2 In A3 c3 Ac w gA → Calls Try.prog 50 #[.agg #[.int .i64 0, .func (.func 68) #[] #[.pointer (some ⟨gA, 0, none⟩)], .func (.func 69) #[] #[.pointer (some ⟨gA, 0, none⟩)], .func (.func 70) #[] #[.pointer (some ⟨gA, 0, none⟩)]], .string u] w fun e w' => e = .returned (.int .i64 r) ∧ Below w.heap.size w w'
 | 0, u, r, w, gA, h, _ => by cases h
 | k + 1, u, r, w, gA, h, hR => of_step A0 c0 P A1 c1 Wr A2 c2 In A3 c3 Ac k (elFac (impl_of.f k P Wr In) Wr In) (fun f x w gA hx hR => fac_calls A0 c0 P A1 c1 Wr A2 c2 In A3 c3 Ac (impl_of.f k P Wr In) (fun u r w gA hu hR => of_calls k u r w gA hu hR) f x w gA hx hR) u r w gA h hR
set_option maxHeartbeats 8000000 in
set_option maxRecDepth 100000 in
theorem measure_calls (w : World) (hP : Kd.C (Kd.slice 2 (Kd.int .i64)) w A0 P.length P) (h0 : P.length ≤ c0) (hW : Kd.C (Kd.slice 2 (Kd.int .i64)) w A1 Wr.length Wr) (h1 : Wr.length ≤ c1) (hI : (Kd.int .i64).C w A2 In.length In) (h2 : In.length ≤ c2) (hA : Kd.bool.C w A3 Ac.length Ac) (h3 : Ac.length ≤ c3) :
  Calls Try.prog 49 #[.agg #[.slice A0 P.length c0, .slice A1 Wr.length c1, .slice A2 In.length c2, .slice A3 Ac.length c3]] w fun e w' => ∃ gA : Nat, e = .returned (.agg #[.int .i64 0, .func (.func 68) #[] #[.pointer (some ⟨gA, 0, none⟩)], .func (.func 69) #[] #[.pointer (some ⟨gA, 0, none⟩)], .func (.func 70) #[] #[.pointer (some ⟨gA, 0, none⟩)]]) ∧ Rd A0 c0 P A1 c1 Wr A2 c2 In A3 c3 Ac w' gA ∧ Below w.heap.size w w' := by
 have hu72 := Try.underlying72
 have HP := AZ.mk hP
 have HW := AZ.mk hW
 have HI := AZ.mk hI
 have HA := AZ.mk hA
 have HC0 := AZ.mk h0
 have HC1 := AZ.mk h1
 have HC2 := AZ.mk h2
 have HC3 := AZ.mk h3
 have HB := AZ.mk (Below.refl w.heap.size w)
 clear hP h0 hW h1 hI h2 hA h3
 go_enter Try.func49, Try.ntmps49
 go_wp2_with (first | ((with_reducible refine gate_dst (N := 1) rfl ?_); refine box_event ?hg (N := 1) ?hd (cs := #[.slice A0 P.length c0, .slice A1 Wr.length c1, .slice A2 In.length c2, .slice A3 Ac.length c3]) (t := 29) ?hr ?_; (case hd => rfl); (case hg => rfl); (case hr => first | (go_simp; done) | (go_simp; rfl)); intro gA hg WgA hbx hb; have BA := AZ.mk hbx; have n0_ := AZ.mk (pT HB.out hb); clear HB; have HB := n0_; clear n0_; clear hb hbx hg) | ((with_reducible refine gate_dst (N := 2) rfl ?_); refine box_event ?hg (N := 2) ?hd (cs := #[.int .i64 0, .nilFunc, .nilFunc, .nilFunc]) (t := 72) ?hr ?_; (case hd => rfl); (case hg => rfl); (case hr => first | (go_simp; done) | (go_simp; rfl)); intro gR hg WgR hbx hb; have BR := AZ.mk hbx; have GR := AZ.mk (show w.heap.size ≤ gR by rw [hg]; exact pZ HB.out); have NR := AZ.mk (show gA ≠ gR by rw [hg]; exact Nat.ne_of_lt (blk_lt BA.out)); have n0_ := AZ.mk (pT HB.out hb); have n1_ := AZ.mk (bb_ BA.out hb); clear HB BA; have HB := n0_; have BA := n1_; clear n0_ n1_; clear hb hbx hg) | ((with_reducible refine gate_ (.store 72 (.tmp 2) (.tmp 6)) rfl ?_); refine store72 rfl 2 6 rfl (g := gR) (old := #[.int .i64 0, .nilFunc, .nilFunc, .nilFunc]) (cs := #[.int .i64 0, .func (.func 68) #[] #[.pointer (some ⟨gA, 0, none⟩)], .func (.func 69) #[] #[.pointer (some ⟨gA, 0, none⟩)], .func (.func 70) #[] #[.pointer (some ⟨gA, 0, none⟩)]]) rfl rfl BR.out rfl rfl (mc_one gA) ?_; intro w9 hbx hB hfar))
 refine bodyPost_ret (results_cell_row rfl _ _ gR 72 #[.int .i64 0, .func (.func 68) #[] #[.pointer (some ⟨gA, 0, none⟩)], .func (.func 69) #[] #[.pointer (some ⟨gA, 0, none⟩)], .func (.func 70) #[] #[.pointer (some ⟨gA, 0, none⟩)]] (0, 0) _ rfl hbx Try.underlying72 rfl (by kernel_rfl)) rfl ?_
 have hb := hB _ _ HB.out GR.out
 exact ⟨gA, rfl, ⟨(hfar _ NR.out).trans BA.out, Kd.C_below HP.out hb, Kd.C_below HW.out hb, Kd.C_below HI.out hb⟩, hb⟩
end
def impl_ElementOf.f (k : Nat) (l0_0 : List (List Int)) (l0_1 : List (List Int)) (l0_2 : List Int) (l0_3 : List Bool) (a1 : ByteArray) : Option (Int × Int) := if okAlg l0_0 l0_1 l0_2 l0_3 = true then ((impl_ValidWord.f k a1).bind fun v => if v = true then ((impl_isMatched.f k a1).bind fun m => if m = true then ((impl_of.f k l0_0 l0_1 l0_2 a1).bind fun x => some (x, 0)) else some (0, 4)) else some (0, 1)) else some (0, 1)
set_option maxHeartbeats 8000000 in
set_option maxRecDepth 100000 in
theorem impl_ElementOf.walk (k : Nat) (A0 : Option Addr) (c0 : Nat) (P : List (List Int)) (A1 : Option Addr) (c1 : Nat) (Wr : List (List Int)) (A2 : Option Addr) (c2 : Nat) (In : List Int) (A3 : Option Addr) (c3 : Nat) (Ac : List Bool) (u : ByteArray) (r1 r2 : Int) (w : World) (hP : Kd.C (Kd.slice 2 (Kd.int .i64)) w A0 P.length P) (h0 : P.length ≤ c0) (hW : Kd.C (Kd.slice 2 (Kd.int .i64)) w A1 Wr.length Wr) (h1 : Wr.length ≤ c1) (hI : (Kd.int .i64).C w A2 In.length In) (h2 : In.length ≤ c2) (hA : Kd.bool.C w A3 Ac.length Ac) (h3 : Ac.length ≤ c3) (h : impl_ElementOf.f k P Wr In Ac u = some (r1, r2)) :
  Calls Try.prog 19 #[.agg #[.slice A0 P.length c0, .slice A1 Wr.length c1, .slice A2 In.length c2, .slice A3 Ac.length c3], .string u] w fun e w' => e = .returned (.tuple #[.int .i64 r1, .int .i64 r2]) ∧ Below w.heap.size w w' := by
 have hu29 := Try.underlying29
 have HP := AZ.mk hP
 have HW := AZ.mk hW
 have HI := AZ.mk hI
 have HA := AZ.mk hA
 have HC0 := AZ.mk h0
 have HC1 := AZ.mk h1
 have HC2 := AZ.mk h2
 have HC3 := AZ.mk h3
 have HB := AZ.mk (Below.refl w.heap.size w)
 clear hP h0 hW h1 hI h2 hA h3
 unfold impl_ElementOf.f at h
 obtain ⟨ok, hok⟩ : ∃ v, okAlg P Wr In Ac = v := ⟨_, rfl⟩
 have HOK := AZ.mk hok
 rw [hok] at h
 clear hok
 cases ok with
 | false =>
  rw [if_neg (by decide)] at h
  simp only [Option.some.injEq, Prod.mk.injEq] at h
  obtain ⟨rfl, rfl⟩ := h
  go_enter Try.func19, Try.ntmps19
  go_wp2_with (first | ((with_reducible refine gate_dst (N := 2) rfl ?_); refine box_event ?hg (N := 2) ?hd (cs := #[.slice A0 P.length c0, .slice A1 Wr.length c1, .slice A2 In.length c2, .slice A3 Ac.length c3]) (t := 29) ?hr ?_; (case hd => rfl); (case hg => rfl); (case hr => first | (go_simp; done) | (go_simp; rfl)); intro gQ hg WgQ hbx hb; have BQ := AZ.mk hbx; have n0_ := AZ.mk (pT HB.out hb); clear HB; have HB := n0_; clear n0_; clear hb hbx hg; have hz0 := (bc BQ.out 0).trans rfl; have hz1 := (bc BQ.out 1).trans rfl; have hz2 := (bc BQ.out 2).trans rfl; have hz3 := (bc BQ.out 3).trans rfl) | ((with_reducible refine gate_callee (f := 10) rfl ?_); (try (refine gate_guard (by rfl) ?_; dsimp only)); refine goesL_ (some 8) rfl rfl Try.func10 (by kernel_rfl) rfl #[.agg #[.slice A0 P.length c0, .slice A1 Wr.length c1, .slice A2 In.length c2, .slice A3 Ac.length c3]] rfl (by (try simp only [List.map_toArray, List.map_cons, List.map_nil]); first | done | rfl) ?_; refine (valg_calls A0 c0 P A1 c1 Wr A2 c2 In A3 c3 Ac _ (Kd.C_below HP.out HB.out) HC0.out (Kd.C_below HW.out HB.out) HC1.out (Kd.C_below HI.out HB.out) HC2.out (Kd.C_below HA.out HB.out) HC3.out).mono ?_; rintro e w8 ⟨rfl, hb⟩; refine ⟨_, rfl, ?_⟩; rw [HOK.out]; have n0_ := AZ.mk (pT HB.out hb); have n1_ := AZ.mk (bb_ BQ.out hb); clear HB BQ; have HB := n0_; have BQ := n1_; clear n0_ n1_; clear hb hz0 hz1 hz2 hz3; have hz0 := (bc BQ.out 0).trans rfl; have hz1 := (bc BQ.out 1).trans rfl; have hz2 := (bc BQ.out 2).trans rfl; have hz3 := (bc BQ.out 3).trans rfl))
  go_ret2
  exact ⟨rfl, HB.out⟩
 | true =>
  rw [if_pos rfl] at h
  obtain ⟨v, hv, h⟩ := Option.bind_eq_some_iff.1 h
  have HV := AZ.mk hv
  clear hv
  cases v with
  | false =>
   rw [if_neg (by decide)] at h
   simp only [Option.some.injEq, Prod.mk.injEq] at h
   obtain ⟨rfl, rfl⟩ := h
   go_enter Try.func19, Try.ntmps19
   go_wp2_with (first | ((with_reducible refine gate_dst (N := 2) rfl ?_); refine box_event ?hg (N := 2) ?hd (cs := #[.slice A0 P.length c0, .slice A1 Wr.length c1, .slice A2 In.length c2, .slice A3 Ac.length c3]) (t := 29) ?hr ?_; (case hd => rfl); (case hg => rfl); (case hr => first | (go_simp; done) | (go_simp; rfl)); intro gQ hg WgQ hbx hb; have BQ := AZ.mk hbx; have n0_ := AZ.mk (pT HB.out hb); clear HB; have HB := n0_; clear n0_; clear hb hbx hg; have hz0 := (bc BQ.out 0).trans rfl; have hz1 := (bc BQ.out 1).trans rfl; have hz2 := (bc BQ.out 2).trans rfl; have hz3 := (bc BQ.out 3).trans rfl) | ((with_reducible refine gate_callee (f := 10) rfl ?_); (try (refine gate_guard (by rfl) ?_; dsimp only)); refine goesL_ (some 8) rfl rfl Try.func10 (by kernel_rfl) rfl #[.agg #[.slice A0 P.length c0, .slice A1 Wr.length c1, .slice A2 In.length c2, .slice A3 Ac.length c3]] rfl (by (try simp only [List.map_toArray, List.map_cons, List.map_nil]); first | done | rfl) ?_; refine (valg_calls A0 c0 P A1 c1 Wr A2 c2 In A3 c3 Ac _ (Kd.C_below HP.out HB.out) HC0.out (Kd.C_below HW.out HB.out) HC1.out (Kd.C_below HI.out HB.out) HC2.out (Kd.C_below HA.out HB.out) HC3.out).mono ?_; rintro e w8 ⟨rfl, hb⟩; refine ⟨_, rfl, ?_⟩; rw [HOK.out]; have n0_ := AZ.mk (pT HB.out hb); have n1_ := AZ.mk (bb_ BQ.out hb); clear HB BQ; have HB := n0_; have BQ := n1_; clear n0_ n1_; clear hb hz0 hz1 hz2 hz3; have hz0 := (bc BQ.out 0).trans rfl; have hz1 := (bc BQ.out 1).trans rfl; have hz2 := (bc BQ.out 2).trans rfl; have hz3 := (bc BQ.out 3).trans rfl) | ((with_reducible refine gate_callee (f := 47) rfl ?_); (try (refine gate_guard (by rfl) ?_; dsimp only)); refine goesL_ (some 12) rfl rfl Try.func47 (by kernel_rfl) rfl #[.string u] rfl (by (try simp only [List.map_toArray, List.map_cons, List.map_nil]); first | done | rfl) ?_; refine (impl_ValidWord.calls k u false _ HV.out).mono ?_; rintro e w12 ⟨rfl, hd⟩; refine ⟨_, rfl, ?_⟩; have hb := hd.below; clear hd; have n0_ := AZ.mk (pT HB.out hb); have n1_ := AZ.mk (bb_ BQ.out hb); clear HB BQ; have HB := n0_; have BQ := n1_; clear n0_ n1_; clear hb hz0 hz1 hz2 hz3; have hz0 := (bc BQ.out 0).trans rfl; have hz1 := (bc BQ.out 1).trans rfl; have hz2 := (bc BQ.out 2).trans rfl; have hz3 := (bc BQ.out 3).trans rfl))
   go_ret2
   exact ⟨rfl, HB.out⟩
  | true =>
   rw [if_pos rfl] at h
   obtain ⟨m, hm, h⟩ := Option.bind_eq_some_iff.1 h
   have HM := AZ.mk hm
   clear hm
   cases m with
   | false =>
    rw [if_neg (by decide)] at h
    simp only [Option.some.injEq, Prod.mk.injEq] at h
    obtain ⟨rfl, rfl⟩ := h
    go_enter Try.func19, Try.ntmps19
    go_wp2_with (first | ((with_reducible refine gate_dst (N := 2) rfl ?_); refine box_event ?hg (N := 2) ?hd (cs := #[.slice A0 P.length c0, .slice A1 Wr.length c1, .slice A2 In.length c2, .slice A3 Ac.length c3]) (t := 29) ?hr ?_; (case hd => rfl); (case hg => rfl); (case hr => first | (go_simp; done) | (go_simp; rfl)); intro gQ hg WgQ hbx hb; have BQ := AZ.mk hbx; have n0_ := AZ.mk (pT HB.out hb); clear HB; have HB := n0_; clear n0_; clear hb hbx hg; have hz0 := (bc BQ.out 0).trans rfl; have hz1 := (bc BQ.out 1).trans rfl; have hz2 := (bc BQ.out 2).trans rfl; have hz3 := (bc BQ.out 3).trans rfl) | ((with_reducible refine gate_callee (f := 10) rfl ?_); (try (refine gate_guard (by rfl) ?_; dsimp only)); refine goesL_ (some 8) rfl rfl Try.func10 (by kernel_rfl) rfl #[.agg #[.slice A0 P.length c0, .slice A1 Wr.length c1, .slice A2 In.length c2, .slice A3 Ac.length c3]] rfl (by (try simp only [List.map_toArray, List.map_cons, List.map_nil]); first | done | rfl) ?_; refine (valg_calls A0 c0 P A1 c1 Wr A2 c2 In A3 c3 Ac _ (Kd.C_below HP.out HB.out) HC0.out (Kd.C_below HW.out HB.out) HC1.out (Kd.C_below HI.out HB.out) HC2.out (Kd.C_below HA.out HB.out) HC3.out).mono ?_; rintro e w8 ⟨rfl, hb⟩; refine ⟨_, rfl, ?_⟩; rw [HOK.out]; have n0_ := AZ.mk (pT HB.out hb); have n1_ := AZ.mk (bb_ BQ.out hb); clear HB BQ; have HB := n0_; have BQ := n1_; clear n0_ n1_; clear hb hz0 hz1 hz2 hz3; have hz0 := (bc BQ.out 0).trans rfl; have hz1 := (bc BQ.out 1).trans rfl; have hz2 := (bc BQ.out 2).trans rfl; have hz3 := (bc BQ.out 3).trans rfl) | ((with_reducible refine gate_callee (f := 47) rfl ?_); (try (refine gate_guard (by rfl) ?_; dsimp only)); refine goesL_ (some 12) rfl rfl Try.func47 (by kernel_rfl) rfl #[.string u] rfl (by (try simp only [List.map_toArray, List.map_cons, List.map_nil]); first | done | rfl) ?_; refine (impl_ValidWord.calls k u true _ HV.out).mono ?_; rintro e w12 ⟨rfl, hd⟩; refine ⟨_, rfl, ?_⟩; have hb := hd.below; clear hd; have n0_ := AZ.mk (pT HB.out hb); have n1_ := AZ.mk (bb_ BQ.out hb); clear HB BQ; have HB := n0_; have BQ := n1_; clear n0_ n1_; clear hb hz0 hz1 hz2 hz3; have hz0 := (bc BQ.out 0).trans rfl; have hz1 := (bc BQ.out 1).trans rfl; have hz2 := (bc BQ.out 2).trans rfl; have hz3 := (bc BQ.out 3).trans rfl) | ((with_reducible refine gate_callee (f := 48) rfl ?_); (try (refine gate_guard (by rfl) ?_; dsimp only)); refine goesL_ (some 17) rfl rfl Try.func48 (by kernel_rfl) rfl #[.string u] rfl (by (try simp only [List.map_toArray, List.map_cons, List.map_nil]); first | done | rfl) ?_; refine (impl_isMatched.calls k u false _ HM.out).mono ?_; rintro e w17 ⟨rfl, hb⟩; refine ⟨_, rfl, ?_⟩; have n0_ := AZ.mk (pT HB.out hb); have n1_ := AZ.mk (bb_ BQ.out hb); clear HB BQ; have HB := n0_; have BQ := n1_; clear n0_ n1_; clear hb hz0 hz1 hz2 hz3; have hz0 := (bc BQ.out 0).trans rfl; have hz1 := (bc BQ.out 1).trans rfl; have hz2 := (bc BQ.out 2).trans rfl; have hz3 := (bc BQ.out 3).trans rfl))
    go_ret2
    exact ⟨rfl, HB.out⟩
   | true =>
    rw [if_pos rfl] at h
    obtain ⟨x, hx, h⟩ := Option.bind_eq_some_iff.1 h
    have HX := AZ.mk hx
    simp only [Option.some.injEq, Prod.mk.injEq] at h
    obtain ⟨rfl, rfl⟩ := h
    clear hx
    go_enter Try.func19, Try.ntmps19
    go_wp2_with (first | ((with_reducible refine gate_dst (N := 2) rfl ?_); refine box_event ?hg (N := 2) ?hd (cs := #[.slice A0 P.length c0, .slice A1 Wr.length c1, .slice A2 In.length c2, .slice A3 Ac.length c3]) (t := 29) ?hr ?_; (case hd => rfl); (case hg => rfl); (case hr => first | (go_simp; done) | (go_simp; rfl)); intro gQ hg WgQ hbx hb; have BQ := AZ.mk hbx; have n0_ := AZ.mk (pT HB.out hb); clear HB; have HB := n0_; clear n0_; clear hb hbx hg; have hz0 := (bc BQ.out 0).trans rfl; have hz1 := (bc BQ.out 1).trans rfl; have hz2 := (bc BQ.out 2).trans rfl; have hz3 := (bc BQ.out 3).trans rfl) | ((with_reducible refine gate_callee (f := 10) rfl ?_); (try (refine gate_guard (by rfl) ?_; dsimp only)); refine goesL_ (some 8) rfl rfl Try.func10 (by kernel_rfl) rfl #[.agg #[.slice A0 P.length c0, .slice A1 Wr.length c1, .slice A2 In.length c2, .slice A3 Ac.length c3]] rfl (by (try simp only [List.map_toArray, List.map_cons, List.map_nil]); first | done | rfl) ?_; refine (valg_calls A0 c0 P A1 c1 Wr A2 c2 In A3 c3 Ac _ (Kd.C_below HP.out HB.out) HC0.out (Kd.C_below HW.out HB.out) HC1.out (Kd.C_below HI.out HB.out) HC2.out (Kd.C_below HA.out HB.out) HC3.out).mono ?_; rintro e w8 ⟨rfl, hb⟩; refine ⟨_, rfl, ?_⟩; rw [HOK.out]; have n0_ := AZ.mk (pT HB.out hb); have n1_ := AZ.mk (bb_ BQ.out hb); clear HB BQ; have HB := n0_; have BQ := n1_; clear n0_ n1_; clear hb hz0 hz1 hz2 hz3; have hz0 := (bc BQ.out 0).trans rfl; have hz1 := (bc BQ.out 1).trans rfl; have hz2 := (bc BQ.out 2).trans rfl; have hz3 := (bc BQ.out 3).trans rfl) | ((with_reducible refine gate_callee (f := 47) rfl ?_); (try (refine gate_guard (by rfl) ?_; dsimp only)); refine goesL_ (some 12) rfl rfl Try.func47 (by kernel_rfl) rfl #[.string u] rfl (by (try simp only [List.map_toArray, List.map_cons, List.map_nil]); first | done | rfl) ?_; refine (impl_ValidWord.calls k u true _ HV.out).mono ?_; rintro e w12 ⟨rfl, hd⟩; refine ⟨_, rfl, ?_⟩; have hb := hd.below; clear hd; have n0_ := AZ.mk (pT HB.out hb); have n1_ := AZ.mk (bb_ BQ.out hb); clear HB BQ; have HB := n0_; have BQ := n1_; clear n0_ n1_; clear hb hz0 hz1 hz2 hz3; have hz0 := (bc BQ.out 0).trans rfl; have hz1 := (bc BQ.out 1).trans rfl; have hz2 := (bc BQ.out 2).trans rfl; have hz3 := (bc BQ.out 3).trans rfl) | ((with_reducible refine gate_callee (f := 48) rfl ?_); (try (refine gate_guard (by rfl) ?_; dsimp only)); refine goesL_ (some 17) rfl rfl Try.func48 (by kernel_rfl) rfl #[.string u] rfl (by (try simp only [List.map_toArray, List.map_cons, List.map_nil]); first | done | rfl) ?_; refine (impl_isMatched.calls k u true _ HM.out).mono ?_; rintro e w17 ⟨rfl, hb⟩; refine ⟨_, rfl, ?_⟩; have n0_ := AZ.mk (pT HB.out hb); have n1_ := AZ.mk (bb_ BQ.out hb); clear HB BQ; have HB := n0_; have BQ := n1_; clear n0_ n1_; clear hb hz0 hz1 hz2 hz3; have hz0 := (bc BQ.out 0).trans rfl; have hz1 := (bc BQ.out 1).trans rfl; have hz2 := (bc BQ.out 2).trans rfl; have hz3 := (bc BQ.out 3).trans rfl) | ((with_reducible refine gate_callee (f := 49) rfl ?_); (try (refine gate_guard (by rfl) ?_; dsimp only)); refine goesL_ (some 20) rfl rfl Try.func49 (by kernel_rfl) rfl #[.agg #[.slice A0 P.length c0, .slice A1 Wr.length c1, .slice A2 In.length c2, .slice A3 Ac.length c3]] rfl (by (try simp only [List.map_toArray, List.map_cons, List.map_nil]); first | done | rfl) ?_; refine (measure_calls A0 c0 P A1 c1 Wr A2 c2 In A3 c3 Ac _ (Kd.C_below HP.out HB.out) HC0.out (Kd.C_below HW.out HB.out) HC1.out (Kd.C_below HI.out HB.out) HC2.out (Kd.C_below HA.out HB.out) HC3.out).mono ?_; rintro e w20 ⟨gA, rfl, hR, hb⟩; refine ⟨_, rfl, ?_⟩; have HR := AZ.mk hR; have n0_ := AZ.mk (pT HB.out hb); clear HB; have HB := n0_; clear n0_; clear hb hR BQ hz0 hz1 hz2 hz3) | ((with_reducible refine gate_callee (f := 50) rfl ?_); (try (refine gate_guard (by rfl) ?_; dsimp only)); refine goesL_ (some 22) rfl rfl Try.func50 (by kernel_rfl) rfl #[.agg #[.int .i64 0, .func (.func 68) #[] #[.pointer (some ⟨gA, 0, none⟩)], .func (.func 69) #[] #[.pointer (some ⟨gA, 0, none⟩)], .func (.func 70) #[] #[.pointer (some ⟨gA, 0, none⟩)]], .string u] rfl (by (try simp only [List.map_toArray, List.map_cons, List.map_nil]); first | done | rfl) ?_; refine (of_calls A0 c0 P A1 c1 Wr A2 c2 In A3 c3 Ac k u x _ gA HX.out HR.out).mono ?_; rintro e w22 ⟨rfl, hb⟩; refine ⟨_, rfl, ?_⟩; have n0_ := AZ.mk (pT HB.out hb); clear HB; have HB := n0_; clear n0_; clear hb HR))
    go_ret2
    exact ⟨rfl, HB.out⟩
end Go.Proofs.Ytgfilbgjnloopaa.P
namespace Go.Proofs.Ytgfilbgjnloopaa.P
open Go.RowKit Go.Proofs.YtgfilbgjnloopaaW.PrintWords Go.Proofs.YtgfilbgjnloopaaW.PrintLast Go.Proofs.YtgfilbgjnloopaaW.PrintMore
attribute [local go_sem] max2_int min2_int max_two min_two max_three min_three max_four min_four
set_option linter.unusedVariables false
set_option linter.unusedSimpArgs false
set_option maxHeartbeats 4000000 in
set_option maxRecDepth 100000 in
theorem impl_ElementOf.calls (k : Nat) (A0_0 : Option Addr) (c0_0 : Nat) (l0_0 : List (List Int)) (A0_1 : Option Addr) (c0_1 : Nat) (l0_1 : List (List Int)) (A0_2 : Option Addr) (c0_2 : Nat) (l0_2 : List Int) (A0_3 : Option Addr) (c0_3 : Nat) (l0_3 : List Bool) (a1 : ByteArray) (r1 : Int) (r2 : Int) (w : World) (hr0_0 : Kd.C (Kd.slice 2 (Kd.int .i64)) w A0_0 l0_0.length l0_0) (hc0_0 : l0_0.length ≤ c0_0) (hr0_1 : Kd.C (Kd.slice 2 (Kd.int .i64)) w A0_1 l0_1.length l0_1) (hc0_1 : l0_1.length ≤ c0_1) (hr0_2 : Kd.C (Kd.int .i64) w A0_2 l0_2.length l0_2) (hc0_2 : l0_2.length ≤ c0_2) (hr0_3 : Kd.C Kd.bool w A0_3 l0_3.length l0_3) (hc0_3 : l0_3.length ≤ c0_3) (h : impl_ElementOf.f k l0_0 l0_1 l0_2 l0_3 a1 = some (r1, r2)) :
  Calls Try.prog 19 #[.agg #[.slice A0_0 l0_0.length c0_0, .slice A0_1 l0_1.length c0_1, .slice A0_2 l0_2.length c0_2, .slice A0_3 l0_3.length c0_3], .string a1] w fun e w' => e = .returned (.tuple #[.int .i64 r1, .int .i64 r2]) ∧ Below w.heap.size w w' := by
 exact impl_ElementOf.walk k A0_0 c0_0 l0_0 A0_1 c0_1 l0_1 A0_2 c0_2 l0_2 A0_3 c0_3 l0_3 a1 r1 r2 w hr0_0 hc0_0 hr0_1 hc0_1 hr0_2 hc0_2 hr0_3 hc0_3 h
end Go.Proofs.Ytgfilbgjnloopaa.P
namespace Go.Proofs.Ytgfilbgjnloopaa.P
open Go.RowKit Go.Proofs.YtgfilbgjnloopaaW.PrintWords Go.Proofs.YtgfilbgjnloopaaW.PrintLast Go.Proofs.YtgfilbgjnloopaaW.PrintMore
attribute [local go_sem] max2_int min2_int max_two min_two max_three min_three max_four min_four
set_option linter.unusedVariables false
set_option linter.unusedSimpArgs false
def impl_AlgebraTakes.f (k : Nat) (l0_0 : List (List Int)) (l0_1 : List (List Int)) (l0_2 : List Int) (l0_3 : List Bool) (a1 : ByteArray) : Option (Bool × Int) := (impl_ElementOf.f k l0_0 l0_1 l0_2 l0_3 a1).bind fun bt569 => (if bt569.2 = 0 then (if 0 ≤ bt569.1 then (if bt569.1 < (l0_3.length : Int) then (some (rdOf false l0_3 bt569.1, 0)) else (none)) else (none)) else (some (false, bt569.2)))
set_option maxHeartbeats 8000000 in
set_option maxRecDepth 100000 in
theorem impl_AlgebraTakes.calls (k : Nat) (A0_0 : Option Addr) (c0_0 : Nat) (l0_0 : List (List Int)) (A0_1 : Option Addr) (c0_1 : Nat) (l0_1 : List (List Int)) (A0_2 : Option Addr) (c0_2 : Nat) (l0_2 : List Int) (A0_3 : Option Addr) (c0_3 : Nat) (l0_3 : List Bool) (a1 : ByteArray) (r1 : Bool) (r2 : Int) (w : World) (hr0_0 : Kd.C (Kd.slice 2 (Kd.int .i64)) w A0_0 l0_0.length l0_0) (hc0_0 : l0_0.length ≤ c0_0) (hr0_1 : Kd.C (Kd.slice 2 (Kd.int .i64)) w A0_1 l0_1.length l0_1) (hc0_1 : l0_1.length ≤ c0_1) (hr0_2 : Kd.C (Kd.int .i64) w A0_2 l0_2.length l0_2) (hc0_2 : l0_2.length ≤ c0_2) (hr0_3 : Kd.C Kd.bool w A0_3 l0_3.length l0_3) (hc0_3 : l0_3.length ≤ c0_3) (h : impl_AlgebraTakes.f k l0_0 l0_1 l0_2 l0_3 a1 = some (r1, r2)) :
  Calls Try.prog 21 #[.agg #[.slice A0_0 l0_0.length c0_0, .slice A0_1 l0_1.length c0_1, .slice A0_2 l0_2.length c0_2, .slice A0_3 l0_3.length c0_3], .string a1] w fun e w' => e = .returned (.tuple #[.bool r1, .int .i64 r2]) ∧ Below w.heap.size w w' := by
 have hu29 := Try.underlying29
 have HR0_0 := AZ.mk hr0_0
 have HC0_0 := AZ.mk hc0_0
 clear hr0_0 hc0_0
 have HR0_1 := AZ.mk hr0_1
 have HC0_1 := AZ.mk hc0_1
 clear hr0_1 hc0_1
 have HR0_2 := AZ.mk hr0_2
 have HC0_2 := AZ.mk hc0_2
 clear hr0_2 hc0_2
 have HR0_3 := AZ.mk hr0_3
 have HC0_3 := AZ.mk hc0_3
 clear hr0_3 hc0_3
 have HB := AZ.mk (Below.refl w.heap.size w)
 have H : ((impl_ElementOf.f k l0_0 l0_1 l0_2 l0_3 a1).bind fun bt569 => (if bt569.2 = 0 then (if 0 ≤ bt569.1 then (if bt569.1 < (l0_3.length : Int) then (some (rdOf false l0_3 bt569.1, 0)) else (none)) else (none)) else (some (false, bt569.2)))) = some (r1, r2) := h
 clear h
 replace H := Option.bind_eq_some_iff.mp H
 obtain ⟨⟨t569, t570⟩, A30, H⟩ := H
 replace H : (if t570 = 0 then (if 0 ≤ t569 then (if t569 < (l0_3.length : Int) then (some (rdOf false l0_3 t569, 0)) else (none)) else (none)) else (some (false, t570))) = some (r1, r2) := H
 have A3 := AZ.mk A30
 clear A30
 by_cases c4 : t570 = 0
 rotate_left
 ·rw [if_neg c4] at H
  have c4b0 : (t570 == 0) = false := beq_eq_false_iff_ne.mpr c4
  have c4b1 : (t570 != 0) = true := bne_iff_ne.mpr c4
  simp only [Option.some.injEq, Prod.mk.injEq] at H
  obtain ⟨rfl, rfl⟩ := H
  go_enter Try.func21, Try.ntmps21
  go_wp2_with (first | ((with_reducible refine gate_dst (N := 2) rfl ?_); refine box_event ?hg (N := 2) ?hd (cs := #[.slice A0_0 l0_0.length c0_0, .slice A0_1 l0_1.length c0_1, .slice A0_2 l0_2.length c0_2, .slice A0_3 l0_3.length c0_3]) (t := 29) ?hr ?_; (case hd => rfl); (case hg => rfl); (case hr => first | (go_simp; done) | (go_simp; rfl)); intro gb568 hg w11 hbox hb; have n0_ := AZ.mk (pT (by repeat (first | (with_reducible first | exact HB.out | apply pA | apply pN | apply pD) | exact HB.out)) hb); have n1_ := AZ.mk (hbox); have n2_ := AZ.mk ((by rw [hg]; exact (pZ (by repeat (first | (with_reducible first | exact HB.out | apply pA | apply pN | apply pD) | exact HB.out))) : w.heap.size ≤ gb568)); have n3_ := AZ.mk ((by rw [hg]; exact (pZ (by repeat (first | (with_reducible first | exact HB.out | apply pA | apply pN | apply pD) | exact HB.out))) : w.heap.size ≤ gb568)); clear HB; have HB := n0_; have BK568 := n1_; have GW568 := n2_; have GE568 := n3_; clear n0_ n1_ n2_ n3_; clear hb hbox hg; have hcz12_0 : w11.cell? ⟨gb568, 0, none⟩ = some (.slice A0_0 l0_0.length c0_0) := (bc BK568.out 0).trans rfl; have hcz12_1 : w11.cell? ⟨gb568, 1, none⟩ = some (.slice A0_1 l0_1.length c0_1) := (bc BK568.out 1).trans rfl; have hcz12_2 : w11.cell? ⟨gb568, 2, none⟩ = some (.slice A0_2 l0_2.length c0_2) := (bc BK568.out 2).trans rfl; have hcz12_3 : w11.cell? ⟨gb568, 3, none⟩ = some (.slice A0_3 l0_3.length c0_3) := (bc BK568.out 3).trans rfl; have hfz12_0 := bf BK568.out 0; have hfz12_1 := bf BK568.out 1; have hfz12_2 := bf BK568.out 2; have hfz12_3 := bf BK568.out 3) | ((with_reducible refine gate_callee (f := 19) rfl ?_); refine goesL_ (some 11) rfl rfl Try.func19 (by kernel_rfl) rfl #[.agg #[.slice A0_0 l0_0.length c0_0, .slice A0_1 l0_1.length c0_1, .slice A0_2 l0_2.length c0_2, .slice A0_3 l0_3.length c0_3], .string a1] rfl (by (try simp only [List.map_toArray, List.map_cons, List.map_nil]); first | done | rfl | (simp only [List.length_drop, List.length_take]; rfl)) ?_; (with_reducible refine (impl_ElementOf.calls k _ _ l0_0 _ _ l0_1 _ _ l0_2 _ _ l0_3 a1 t569 t570 _ ?side1 ?side2 ?side3 ?side4 ?side5 ?side6 ?side7 ?side8 A3.out).mono ?_); (case side1 => repeat (first | exact (Kd.C_below HR0_0.out HB.out) | (with_reducible refine Kd.C_alloc ?_ _) | (with_reducible refine Kd.C_drewN ?_ _) | (with_reducible refine Kd.C_drew ?_))); (case side2 => exact HC0_0.out); (case side3 => repeat (first | exact (Kd.C_below HR0_1.out HB.out) | (with_reducible refine Kd.C_alloc ?_ _) | (with_reducible refine Kd.C_drewN ?_ _) | (with_reducible refine Kd.C_drew ?_))); (case side4 => exact HC0_1.out); (case side5 => repeat (first | exact (Kd.C_below HR0_2.out HB.out) | (with_reducible refine Kd.C_alloc ?_ _) | (with_reducible refine Kd.C_drewN ?_ _) | (with_reducible refine Kd.C_drew ?_))); (case side6 => exact HC0_2.out); (case side7 => repeat (first | exact (Kd.C_below HR0_3.out HB.out) | (with_reducible refine Kd.C_alloc ?_ _) | (with_reducible refine Kd.C_drewN ?_ _) | (with_reducible refine Kd.C_drew ?_))); (case side8 => exact HC0_3.out); rintro e w13 ⟨rfl, hb⟩; refine ⟨_, rfl, ?_⟩; have n0_ := AZ.mk (bb_ (g := gb568) (o := .cells #[.slice A0_0 l0_0.length c0_0, .slice A0_1 l0_1.length c0_1, .slice A0_2 l0_2.length c0_2, .slice A0_3 l0_3.length c0_3] 29 (0, 0)) (by (with_reducible repeat (first | refine bn_ ?_ _ | refine bd_ ?_ | refine ba_ ?_ _)); exact BK568.out) hb); have n1_ := AZ.mk (pT (by repeat (first | (with_reducible first | exact HB.out | apply pA | apply pN | apply pD | refine pS ?_ GE568.out) | exact HB.out)) hb); clear BK568; clear HB; have BK568 := n0_; have HB := n1_; clear n0_ n1_; (try clear hb); (try clear hb2); (try clear hk); (try clear hi)))
  go_ret2
  exact ⟨by first | rfl | (simp [errW_none, errW_some] <;> rfl) | (simp [*, errW_none, errW_some] <;> rfl), by repeat (first | (with_reducible first | exact HB.out | apply pA | apply pN | apply pD | refine pS ?_ GE568.out) | exact HB.out)⟩
 rw [if_pos c4] at H
 have c4b0 : (t570 == 0) = true := beq_iff_eq.mpr c4
 have c4b1 : (t570 != 0) = false := bne_eq_false_iff_eq.mpr c4
 clear c4
 by_cases c5 : 0 ≤ t569
 rotate_left
 ·rw [if_neg c5] at H
  exact absurd H (by simp)
 rw [if_pos c5] at H
 have c5b0 : decide (0 ≤ t569) = true := decide_eq_true c5
 clear c5
 by_cases c6 : t569 < (l0_3.length : Int)
 rotate_left
 ·rw [if_neg c6] at H
  exact absurd H (by simp)
 rw [if_pos c6] at H
 have c6b0 : decide (t569 < (l0_3.length : Int)) = true := decide_eq_true c6
 clear c6
 simp only [Option.some.injEq, Prod.mk.injEq] at H
 obtain ⟨rfl, rfl⟩ := H
 go_enter Try.func21, Try.ntmps21
 go_wp2_with (first | ((with_reducible refine gate_dst (N := 2) rfl ?_); refine box_event ?hg (N := 2) ?hd (cs := #[.slice A0_0 l0_0.length c0_0, .slice A0_1 l0_1.length c0_1, .slice A0_2 l0_2.length c0_2, .slice A0_3 l0_3.length c0_3]) (t := 29) ?hr ?_; (case hd => rfl); (case hg => rfl); (case hr => first | (go_simp; done) | (go_simp; rfl)); intro gb568 hg w7 hbox hb; have n0_ := AZ.mk (pT (by repeat (first | (with_reducible first | exact HB.out | apply pA | apply pN | apply pD) | exact HB.out)) hb); have n1_ := AZ.mk (hbox); have n2_ := AZ.mk ((by rw [hg]; exact (pZ (by repeat (first | (with_reducible first | exact HB.out | apply pA | apply pN | apply pD) | exact HB.out))) : w.heap.size ≤ gb568)); have n3_ := AZ.mk ((by rw [hg]; exact (pZ (by repeat (first | (with_reducible first | exact HB.out | apply pA | apply pN | apply pD) | exact HB.out))) : w.heap.size ≤ gb568)); clear HB; have HB := n0_; have BK568 := n1_; have GW568 := n2_; have GE568 := n3_; clear n0_ n1_ n2_ n3_; clear hb hbox hg; have hcz8_0 : w7.cell? ⟨gb568, 0, none⟩ = some (.slice A0_0 l0_0.length c0_0) := (bc BK568.out 0).trans rfl; have hcz8_1 : w7.cell? ⟨gb568, 1, none⟩ = some (.slice A0_1 l0_1.length c0_1) := (bc BK568.out 1).trans rfl; have hcz8_2 : w7.cell? ⟨gb568, 2, none⟩ = some (.slice A0_2 l0_2.length c0_2) := (bc BK568.out 2).trans rfl; have hcz8_3 : w7.cell? ⟨gb568, 3, none⟩ = some (.slice A0_3 l0_3.length c0_3) := (bc BK568.out 3).trans rfl; have hfz8_0 := bf BK568.out 0; have hfz8_1 := bf BK568.out 1; have hfz8_2 := bf BK568.out 2; have hfz8_3 := bf BK568.out 3) | ((with_reducible refine gate_callee (f := 19) rfl ?_); refine goesL_ (some 11) rfl rfl Try.func19 (by kernel_rfl) rfl #[.agg #[.slice A0_0 l0_0.length c0_0, .slice A0_1 l0_1.length c0_1, .slice A0_2 l0_2.length c0_2, .slice A0_3 l0_3.length c0_3], .string a1] rfl (by (try simp only [List.map_toArray, List.map_cons, List.map_nil]); first | done | rfl | (simp only [List.length_drop, List.length_take]; rfl)) ?_; (with_reducible refine (impl_ElementOf.calls k _ _ l0_0 _ _ l0_1 _ _ l0_2 _ _ l0_3 a1 t569 t570 _ ?side1 ?side2 ?side3 ?side4 ?side5 ?side6 ?side7 ?side8 A3.out).mono ?_); (case side1 => repeat (first | exact (Kd.C_below HR0_0.out HB.out) | (with_reducible refine Kd.C_alloc ?_ _) | (with_reducible refine Kd.C_drewN ?_ _) | (with_reducible refine Kd.C_drew ?_))); (case side2 => exact HC0_0.out); (case side3 => repeat (first | exact (Kd.C_below HR0_1.out HB.out) | (with_reducible refine Kd.C_alloc ?_ _) | (with_reducible refine Kd.C_drewN ?_ _) | (with_reducible refine Kd.C_drew ?_))); (case side4 => exact HC0_1.out); (case side5 => repeat (first | exact (Kd.C_below HR0_2.out HB.out) | (with_reducible refine Kd.C_alloc ?_ _) | (with_reducible refine Kd.C_drewN ?_ _) | (with_reducible refine Kd.C_drew ?_))); (case side6 => exact HC0_2.out); (case side7 => repeat (first | exact (Kd.C_below HR0_3.out HB.out) | (with_reducible refine Kd.C_alloc ?_ _) | (with_reducible refine Kd.C_drewN ?_ _) | (with_reducible refine Kd.C_drew ?_))); (case side8 => exact HC0_3.out); rintro e w9 ⟨rfl, hb⟩; refine ⟨_, rfl, ?_⟩; have n0_ := AZ.mk (bb_ (g := gb568) (o := .cells #[.slice A0_0 l0_0.length c0_0, .slice A0_1 l0_1.length c0_1, .slice A0_2 l0_2.length c0_2, .slice A0_3 l0_3.length c0_3] 29 (0, 0)) (by (with_reducible repeat (first | refine bn_ ?_ _ | refine bd_ ?_ | refine ba_ ?_ _)); exact BK568.out) hb); have n1_ := AZ.mk (pT (by repeat (first | (with_reducible first | exact HB.out | apply pA | apply pN | apply pD | refine pS ?_ GE568.out) | exact HB.out)) hb); clear BK568; clear HB; have BK568 := n0_; have HB := n1_; clear n0_ n1_; (try clear hb); (try clear hb2); (try clear hk); (try clear hi); have hcz10_0 : w9.cell? ⟨gb568, 0, none⟩ = some (.slice A0_0 l0_0.length c0_0) := (bc BK568.out 0).trans rfl; have hcz10_1 : w9.cell? ⟨gb568, 1, none⟩ = some (.slice A0_1 l0_1.length c0_1) := (bc BK568.out 1).trans rfl; have hcz10_2 : w9.cell? ⟨gb568, 2, none⟩ = some (.slice A0_2 l0_2.length c0_2) := (bc BK568.out 2).trans rfl; have hcz10_3 : w9.cell? ⟨gb568, 3, none⟩ = some (.slice A0_3 l0_3.length c0_3) := (bc BK568.out 3).trans rfl; have hfz10_0 := bf BK568.out 0; have hfz10_1 := bf BK568.out 1; have hfz10_2 := bf BK568.out 2; have hfz10_3 := bf BK568.out 3; have p571 : 0 ≤ (t569 : Int) := oT (by first | (with_reducible assumption) | assumption); have q571 : t569 < (l0_3.length : Int) := oT (by first | (with_reducible assumption) | assumption); obtain ⟨ad571, e571, hx571_0⟩ := Kd.at_bool HR0_3.out t569 p571 q571; cases e571; replace hx571_0 := (HB.out.cell (World.block_lt_of_cell? w _ hx571_0)).trans hx571_0; replace p571 := eq_true p571; replace q571 := eq_true q571))
 go_ret2
 exact ⟨by first | rfl | (simp [errW_none, errW_some] <;> rfl) | (simp [*, errW_none, errW_some] <;> rfl), by repeat (first | (with_reducible first | exact HB.out | apply pA | apply pN | apply pD | refine pS ?_ GE568.out) | exact HB.out)⟩
end Go.Proofs.Ytgfilbgjnloopaa.P
namespace Go.Proofs.Ytgfilbgjnloopaa.P
open Go.RowKit Go.Proofs.YtgfilbgjnloopaaW.PrintWords Go.Proofs.YtgfilbgjnloopaaW.PrintLast Go.Proofs.YtgfilbgjnloopaaW.PrintMore
attribute [local go_sem] max2_int min2_int max_two min_two max_three min_three max_four min_four
set_option linter.unusedVariables false
set_option linter.unusedSimpArgs false
def laws_FnExactAlgebraTakes.j0 : Nat → Bool → List (List Int) → List (List Int) → List Int → List Bool → List (List Int) → List (List Int) → List Int → List Bool → Option (Bool)
 | 0, _, _, _, _, _, _, _, _, _ => none
 | k + 1, x41, x573000, x573001, x573002, x573003, x601000, x601001, x601002, x601003 => if x41 = true then (some false) else ((laws_toAlgebra.f k x573000 x573001 x573002 x573003).bind fun bt603 => ((laws_eqAlgebra.f k x601000 x601001 x601002 x601003 bt603.1 bt603.2.1 bt603.2.2.1 bt603.2.2.2).bind fun t615 => (if t615 = true then (some true) else (some false))))
def laws_FnExactAlgebraTakes.f (k : Nat) (l0_0 : List (List Int)) (l0_1 : List (List Int)) (l0_2 : List Int) (l0_3 : List Bool) (a1 : ByteArray) : Option (Bool) := if (a1.size : Int) > 1048576 then (some true) else ((laws_szAlgebra.f k l0_0 l0_1 l0_2 l0_3 1048576).bind fun t573 => (if t573 < 0 then (some true) else ((laws_toAlgebra.f k l0_0 l0_1 l0_2 l0_3).bind fun bt574 => ((spec_AlgebraTakes.f k bt574.1 bt574.2.1 bt574.2.2.1 bt574.2.2.2 a1).bind fun bt586 => ((laws_toAlgebra.f k l0_0 l0_1 l0_2 l0_3).bind fun bt588 => ((impl_AlgebraTakes.f k bt588.1 bt588.2.1 bt588.2.2.1 bt588.2.2.2 a1).bind fun bt601 => (if (bt601.1 != bt586.1) = true then (laws_FnExactAlgebraTakes.j0 k true l0_0 l0_1 l0_2 l0_3 bt588.1 bt588.2.1 bt588.2.2.1 bt588.2.2.2) else (laws_FnExactAlgebraTakes.j0 k (bt601.2 != bt586.2) l0_0 l0_1 l0_2 l0_3 bt588.1 bt588.2.1 bt588.2.2.1 bt588.2.2.2))))))))
set_option maxHeartbeats 8000000 in
set_option maxRecDepth 100000 in
theorem laws_FnExactAlgebraTakes.calls (k : Nat) (A0_0 : Option Addr) (c0_0 : Nat) (l0_0 : List (List Int)) (A0_1 : Option Addr) (c0_1 : Nat) (l0_1 : List (List Int)) (A0_2 : Option Addr) (c0_2 : Nat) (l0_2 : List Int) (A0_3 : Option Addr) (c0_3 : Nat) (l0_3 : List Bool) (a1 : ByteArray) (r : Bool) (w : World) (hr0_0 : Kd.C (Kd.slice 2 (Kd.int .i64)) w A0_0 l0_0.length l0_0) (hc0_0 : l0_0.length ≤ c0_0) (hr0_1 : Kd.C (Kd.slice 2 (Kd.int .i64)) w A0_1 l0_1.length l0_1) (hc0_1 : l0_1.length ≤ c0_1) (hr0_2 : Kd.C (Kd.int .i64) w A0_2 l0_2.length l0_2) (hc0_2 : l0_2.length ≤ c0_2) (hr0_3 : Kd.C Kd.bool w A0_3 l0_3.length l0_3) (hc0_3 : l0_3.length ≤ c0_3) (h : laws_FnExactAlgebraTakes.f k l0_0 l0_1 l0_2 l0_3 a1 = some r) :
  Calls Try.prog 6 #[.agg #[.slice A0_0 l0_0.length c0_0, .slice A0_1 l0_1.length c0_1, .slice A0_2 l0_2.length c0_2, .slice A0_3 l0_3.length c0_3], .string a1] w fun e w' => e = .returned (.bool r) ∧ Below w.heap.size w w' := by
 have hu26 := Try.underlying26
 have hu29 := Try.underlying29
 have HR0_0 := AZ.mk hr0_0
 have HC0_0 := AZ.mk hc0_0
 clear hr0_0 hc0_0
 have HR0_1 := AZ.mk hr0_1
 have HC0_1 := AZ.mk hc0_1
 clear hr0_1 hc0_1
 have HR0_2 := AZ.mk hr0_2
 have HC0_2 := AZ.mk hc0_2
 clear hr0_2 hc0_2
 have HR0_3 := AZ.mk hr0_3
 have HC0_3 := AZ.mk hc0_3
 clear hr0_3 hc0_3
 have HB := AZ.mk (Below.refl w.heap.size w)
 have H : (if (a1.size : Int) > 1048576 then (some true) else ((laws_szAlgebra.f k l0_0 l0_1 l0_2 l0_3 1048576).bind fun t573 => (if t573 < 0 then (some true) else ((laws_toAlgebra.f k l0_0 l0_1 l0_2 l0_3).bind fun bt574 => ((spec_AlgebraTakes.f k bt574.1 bt574.2.1 bt574.2.2.1 bt574.2.2.2 a1).bind fun bt586 => ((laws_toAlgebra.f k l0_0 l0_1 l0_2 l0_3).bind fun bt588 => ((impl_AlgebraTakes.f k bt588.1 bt588.2.1 bt588.2.2.1 bt588.2.2.2 a1).bind fun bt601 => (if (bt601.1 != bt586.1) = true then (laws_FnExactAlgebraTakes.j0 k true l0_0 l0_1 l0_2 l0_3 bt588.1 bt588.2.1 bt588.2.2.1 bt588.2.2.2) else (laws_FnExactAlgebraTakes.j0 k (bt601.2 != bt586.2) l0_0 l0_1 l0_2 l0_3 bt588.1 bt588.2.1 bt588.2.2.1 bt588.2.2.2))))))))) = some r := h
 clear h
 by_cases c3 : (a1.size : Int) > 1048576
 ·rw [if_pos c3] at H
  have c3b0 : decide (1048576 < (a1.size : Int)) = true := decide_eq_true c3
  have c3b1 : decide (1048576 < a1.size) = true := decide_eq_true (by omega)
  clear c3
  obtain rfl := Option.some.inj H
  go_enter Try.func6, Try.ntmps6
  go_wp2_with (first | ((with_reducible refine gate_dst (N := 2) rfl ?_); refine box_event ?hg (N := 2) ?hd (cs := #[.slice A0_0 l0_0.length c0_0, .slice A0_1 l0_1.length c0_1, .slice A0_2 l0_2.length c0_2, .slice A0_3 l0_3.length c0_3]) (t := 26) ?hr ?_; (case hd => rfl); (case hg => rfl); (case hr => first | (go_simp; done) | (go_simp; rfl)); intro gb572 hg w4 hbox hb; have n0_ := AZ.mk (pT (by repeat (first | (with_reducible first | exact HB.out | apply pA | apply pN | apply pD) | exact HB.out)) hb); have n1_ := AZ.mk (hbox); have n2_ := AZ.mk ((by rw [hg]; exact (pZ (by repeat (first | (with_reducible first | exact HB.out | apply pA | apply pN | apply pD) | exact HB.out))) : w.heap.size ≤ gb572)); have n3_ := AZ.mk ((by rw [hg]; exact (pZ (by repeat (first | (with_reducible first | exact HB.out | apply pA | apply pN | apply pD) | exact HB.out))) : w.heap.size ≤ gb572)); clear HB; have HB := n0_; have BK572 := n1_; have GW572 := n2_; have GE572 := n3_; clear n0_ n1_ n2_ n3_; clear hb hbox hg))
  go_ret
  exact ⟨by first | rfl | (simp [errW_none, errW_some] <;> rfl) | (simp [*, errW_none, errW_some] <;> rfl), by repeat (first | (with_reducible first | exact HB.out | apply pA | apply pN | apply pD | refine pS ?_ GE572.out) | exact HB.out)⟩
 rw [if_neg c3] at H
 have c3b0 : decide (1048576 < (a1.size : Int)) = false := decide_eq_false c3
 have c3b1 : decide (1048576 < a1.size) = false := decide_eq_false (by omega)
 clear c3
 replace H := Option.bind_eq_some_iff.mp H
 obtain ⟨t573, A50, H⟩ := H
 replace H : (if t573 < 0 then (some true) else ((laws_toAlgebra.f k l0_0 l0_1 l0_2 l0_3).bind fun bt574 => ((spec_AlgebraTakes.f k bt574.1 bt574.2.1 bt574.2.2.1 bt574.2.2.2 a1).bind fun bt586 => ((laws_toAlgebra.f k l0_0 l0_1 l0_2 l0_3).bind fun bt588 => ((impl_AlgebraTakes.f k bt588.1 bt588.2.1 bt588.2.2.1 bt588.2.2.2 a1).bind fun bt601 => (if (bt601.1 != bt586.1) = true then (laws_FnExactAlgebraTakes.j0 k true l0_0 l0_1 l0_2 l0_3 bt588.1 bt588.2.1 bt588.2.2.1 bt588.2.2.2) else (laws_FnExactAlgebraTakes.j0 k (bt601.2 != bt586.2) l0_0 l0_1 l0_2 l0_3 bt588.1 bt588.2.1 bt588.2.2.1 bt588.2.2.2))))))) = some r := H
 have A5 := AZ.mk A50
 clear A50
 by_cases c6 : t573 < 0
 ·rw [if_pos c6] at H
  have c6b0 : decide (t573 < 0) = true := decide_eq_true c6
  clear c6
  obtain rfl := Option.some.inj H
  go_enter Try.func6, Try.ntmps6
  go_wp2_with (first | ((with_reducible refine gate_dst (N := 2) rfl ?_); refine box_event ?hg (N := 2) ?hd (cs := #[.slice A0_0 l0_0.length c0_0, .slice A0_1 l0_1.length c0_1, .slice A0_2 l0_2.length c0_2, .slice A0_3 l0_3.length c0_3]) (t := 26) ?hr ?_; (case hd => rfl); (case hg => rfl); (case hr => first | (go_simp; done) | (go_simp; rfl)); intro gb572 hg w7 hbox hb; have n0_ := AZ.mk (pT (by repeat (first | (with_reducible first | exact HB.out | apply pA | apply pN | apply pD) | exact HB.out)) hb); have n1_ := AZ.mk (hbox); have n2_ := AZ.mk ((by rw [hg]; exact (pZ (by repeat (first | (with_reducible first | exact HB.out | apply pA | apply pN | apply pD) | exact HB.out))) : w.heap.size ≤ gb572)); have n3_ := AZ.mk ((by rw [hg]; exact (pZ (by repeat (first | (with_reducible first | exact HB.out | apply pA | apply pN | apply pD) | exact HB.out))) : w.heap.size ≤ gb572)); clear HB; have HB := n0_; have BK572 := n1_; have GW572 := n2_; have GE572 := n3_; clear n0_ n1_ n2_ n3_; clear hb hbox hg; have hcz8_0 : w7.cell? ⟨gb572, 0, none⟩ = some (.slice A0_0 l0_0.length c0_0) := (bc BK572.out 0).trans rfl; have hcz8_1 : w7.cell? ⟨gb572, 1, none⟩ = some (.slice A0_1 l0_1.length c0_1) := (bc BK572.out 1).trans rfl; have hcz8_2 : w7.cell? ⟨gb572, 2, none⟩ = some (.slice A0_2 l0_2.length c0_2) := (bc BK572.out 2).trans rfl; have hcz8_3 : w7.cell? ⟨gb572, 3, none⟩ = some (.slice A0_3 l0_3.length c0_3) := (bc BK572.out 3).trans rfl; have hfz8_0 := bf BK572.out 0; have hfz8_1 := bf BK572.out 1; have hfz8_2 := bf BK572.out 2; have hfz8_3 := bf BK572.out 3) | ((with_reducible refine gate_callee (f := 7) rfl ?_); refine goesL_ (some 16) rfl rfl Try.func7 (by kernel_rfl) rfl #[.agg #[.slice A0_0 l0_0.length c0_0, .slice A0_1 l0_1.length c0_1, .slice A0_2 l0_2.length c0_2, .slice A0_3 l0_3.length c0_3], .int .i64 1048576] rfl (by (try simp only [List.map_toArray, List.map_cons, List.map_nil]); first | done | rfl | (simp only [List.length_drop, List.length_take]; rfl)) ?_; (with_reducible refine (laws_szAlgebra.calls k _ _ l0_0 _ _ l0_1 _ _ l0_2 _ _ l0_3 1048576 t573 _ ?side1 ?side2 ?side3 ?side4 ?side5 ?side6 ?side7 ?side8 A5.out).mono ?_); (case side1 => repeat (first | exact (Kd.C_below HR0_0.out HB.out) | (with_reducible refine Kd.C_alloc ?_ _) | (with_reducible refine Kd.C_drewN ?_ _) | (with_reducible refine Kd.C_drew ?_))); (case side2 => exact HC0_0.out); (case side3 => repeat (first | exact (Kd.C_below HR0_1.out HB.out) | (with_reducible refine Kd.C_alloc ?_ _) | (with_reducible refine Kd.C_drewN ?_ _) | (with_reducible refine Kd.C_drew ?_))); (case side4 => exact HC0_1.out); (case side5 => repeat (first | exact (Kd.C_below HR0_2.out HB.out) | (with_reducible refine Kd.C_alloc ?_ _) | (with_reducible refine Kd.C_drewN ?_ _) | (with_reducible refine Kd.C_drew ?_))); (case side6 => exact HC0_2.out); (case side7 => repeat (first | exact (Kd.C_below HR0_3.out HB.out) | (with_reducible refine Kd.C_alloc ?_ _) | (with_reducible refine Kd.C_drewN ?_ _) | (with_reducible refine Kd.C_drew ?_))); (case side8 => exact HC0_3.out); rintro e w9 ⟨rfl, hb⟩; refine ⟨_, rfl, ?_⟩; have n0_ := AZ.mk (bb_ (g := gb572) (o := .cells #[.slice A0_0 l0_0.length c0_0, .slice A0_1 l0_1.length c0_1, .slice A0_2 l0_2.length c0_2, .slice A0_3 l0_3.length c0_3] 26 (0, 0)) (by (with_reducible repeat (first | refine bn_ ?_ _ | refine bd_ ?_ | refine ba_ ?_ _)); exact BK572.out) hb); have n1_ := AZ.mk (pT (by repeat (first | (with_reducible first | exact HB.out | apply pA | apply pN | apply pD | refine pS ?_ GE572.out) | exact HB.out)) hb); clear BK572; clear HB; have BK572 := n0_; have HB := n1_; clear n0_ n1_; (try clear hb); (try clear hb2); (try clear hk); (try clear hi)))
  go_ret
  exact ⟨by first | rfl | (simp [errW_none, errW_some] <;> rfl) | (simp [*, errW_none, errW_some] <;> rfl), by repeat (first | (with_reducible first | exact HB.out | apply pA | apply pN | apply pD | refine pS ?_ GE572.out) | exact HB.out)⟩
 rw [if_neg c6] at H
 have c6b0 : decide (t573 < 0) = false := decide_eq_false c6
 clear c6
 replace H := Option.bind_eq_some_iff.mp H
 obtain ⟨⟨t574, t577, t580, t583⟩, A100, H⟩ := H
 replace H : ((spec_AlgebraTakes.f k t574 t577 t580 t583 a1).bind fun bt586 => ((laws_toAlgebra.f k l0_0 l0_1 l0_2 l0_3).bind fun bt588 => ((impl_AlgebraTakes.f k bt588.1 bt588.2.1 bt588.2.2.1 bt588.2.2.2 a1).bind fun bt601 => (if (bt601.1 != bt586.1) = true then (laws_FnExactAlgebraTakes.j0 k true l0_0 l0_1 l0_2 l0_3 bt588.1 bt588.2.1 bt588.2.2.1 bt588.2.2.2) else (laws_FnExactAlgebraTakes.j0 k (bt601.2 != bt586.2) l0_0 l0_1 l0_2 l0_3 bt588.1 bt588.2.1 bt588.2.2.1 bt588.2.2.2))))) = some r := H
 have A10 := AZ.mk A100
 clear A100
 replace H := Option.bind_eq_some_iff.mp H
 obtain ⟨⟨t586, t587⟩, A110, H⟩ := H
 replace H : ((laws_toAlgebra.f k l0_0 l0_1 l0_2 l0_3).bind fun bt588 => ((impl_AlgebraTakes.f k bt588.1 bt588.2.1 bt588.2.2.1 bt588.2.2.2 a1).bind fun bt601 => (if (bt601.1 != t586) = true then (laws_FnExactAlgebraTakes.j0 k true l0_0 l0_1 l0_2 l0_3 bt588.1 bt588.2.1 bt588.2.2.1 bt588.2.2.2) else (laws_FnExactAlgebraTakes.j0 k (bt601.2 != t587) l0_0 l0_1 l0_2 l0_3 bt588.1 bt588.2.1 bt588.2.2.1 bt588.2.2.2)))) = some r := H
 have A11 := AZ.mk A110
 clear A110
 replace H := Option.bind_eq_some_iff.mp H
 obtain ⟨⟨t588, t591, t594, t597⟩, A120, H⟩ := H
 replace H : ((impl_AlgebraTakes.f k t588 t591 t594 t597 a1).bind fun bt601 => (if (bt601.1 != t586) = true then (laws_FnExactAlgebraTakes.j0 k true l0_0 l0_1 l0_2 l0_3 t588 t591 t594 t597) else (laws_FnExactAlgebraTakes.j0 k (bt601.2 != t587) l0_0 l0_1 l0_2 l0_3 t588 t591 t594 t597))) = some r := H
 have A12 := AZ.mk A120
 clear A120
 replace H := Option.bind_eq_some_iff.mp H
 obtain ⟨⟨t601, t602⟩, A130, H⟩ := H
 replace H : (if (t601 != t586) = true then (laws_FnExactAlgebraTakes.j0 k true l0_0 l0_1 l0_2 l0_3 t588 t591 t594 t597) else (laws_FnExactAlgebraTakes.j0 k (t602 != t587) l0_0 l0_1 l0_2 l0_3 t588 t591 t594 t597)) = some r := H
 have A13 := AZ.mk A130
 clear A130
 have HC14 := AZ.mk H
 clear H
 go_enter Try.func6, Try.ntmps6
 go_upto_region 10 with (first | ((with_reducible refine gate_dst (N := 2) rfl ?_); refine box_event ?hg (N := 2) ?hd (cs := #[.slice A0_0 l0_0.length c0_0, .slice A0_1 l0_1.length c0_1, .slice A0_2 l0_2.length c0_2, .slice A0_3 l0_3.length c0_3]) (t := 26) ?hr ?_; (case hd => rfl); (case hg => rfl); (case hr => first | (go_simp; done) | (go_simp; rfl)); intro gb572 hg w15 hbox hb; have n0_ := AZ.mk (pT (by repeat (first | (with_reducible first | exact HB.out | apply pA | apply pN | apply pD) | exact HB.out)) hb); have n1_ := AZ.mk (hbox); have n2_ := AZ.mk ((by rw [hg]; exact (pZ (by repeat (first | (with_reducible first | exact HB.out | apply pA | apply pN | apply pD) | exact HB.out))) : w.heap.size ≤ gb572)); have n3_ := AZ.mk ((by rw [hg]; exact (pZ (by repeat (first | (with_reducible first | exact HB.out | apply pA | apply pN | apply pD) | exact HB.out))) : w.heap.size ≤ gb572)); clear HB; have HB := n0_; have BK572 := n1_; have GW572 := n2_; have GE572 := n3_; clear n0_ n1_ n2_ n3_; clear hb hbox hg; have hcz16_0 : w15.cell? ⟨gb572, 0, none⟩ = some (.slice A0_0 l0_0.length c0_0) := (bc BK572.out 0).trans rfl; have hcz16_1 : w15.cell? ⟨gb572, 1, none⟩ = some (.slice A0_1 l0_1.length c0_1) := (bc BK572.out 1).trans rfl; have hcz16_2 : w15.cell? ⟨gb572, 2, none⟩ = some (.slice A0_2 l0_2.length c0_2) := (bc BK572.out 2).trans rfl; have hcz16_3 : w15.cell? ⟨gb572, 3, none⟩ = some (.slice A0_3 l0_3.length c0_3) := (bc BK572.out 3).trans rfl; have hfz16_0 := bf BK572.out 0; have hfz16_1 := bf BK572.out 1; have hfz16_2 := bf BK572.out 2; have hfz16_3 := bf BK572.out 3) | ((with_reducible refine gate_callee (f := 7) rfl ?_); refine goesL_ (some 16) rfl rfl Try.func7 (by kernel_rfl) rfl #[.agg #[.slice A0_0 l0_0.length c0_0, .slice A0_1 l0_1.length c0_1, .slice A0_2 l0_2.length c0_2, .slice A0_3 l0_3.length c0_3], .int .i64 1048576] rfl (by (try simp only [List.map_toArray, List.map_cons, List.map_nil]); first | done | rfl | (simp only [List.length_drop, List.length_take]; rfl)) ?_; (with_reducible refine (laws_szAlgebra.calls k _ _ l0_0 _ _ l0_1 _ _ l0_2 _ _ l0_3 1048576 t573 _ ?side1 ?side2 ?side3 ?side4 ?side5 ?side6 ?side7 ?side8 A5.out).mono ?_); (case side1 => repeat (first | exact (Kd.C_below HR0_0.out HB.out) | (with_reducible refine Kd.C_alloc ?_ _) | (with_reducible refine Kd.C_drewN ?_ _) | (with_reducible refine Kd.C_drew ?_))); (case side2 => exact HC0_0.out); (case side3 => repeat (first | exact (Kd.C_below HR0_1.out HB.out) | (with_reducible refine Kd.C_alloc ?_ _) | (with_reducible refine Kd.C_drewN ?_ _) | (with_reducible refine Kd.C_drew ?_))); (case side4 => exact HC0_1.out); (case side5 => repeat (first | exact (Kd.C_below HR0_2.out HB.out) | (with_reducible refine Kd.C_alloc ?_ _) | (with_reducible refine Kd.C_drewN ?_ _) | (with_reducible refine Kd.C_drew ?_))); (case side6 => exact HC0_2.out); (case side7 => repeat (first | exact (Kd.C_below HR0_3.out HB.out) | (with_reducible refine Kd.C_alloc ?_ _) | (with_reducible refine Kd.C_drewN ?_ _) | (with_reducible refine Kd.C_drew ?_))); (case side8 => exact HC0_3.out); rintro e w17 ⟨rfl, hb⟩; refine ⟨_, rfl, ?_⟩; have n0_ := AZ.mk (bb_ (g := gb572) (o := .cells #[.slice A0_0 l0_0.length c0_0, .slice A0_1 l0_1.length c0_1, .slice A0_2 l0_2.length c0_2, .slice A0_3 l0_3.length c0_3] 26 (0, 0)) (by (with_reducible repeat (first | refine bn_ ?_ _ | refine bd_ ?_ | refine ba_ ?_ _)); exact BK572.out) hb); have n1_ := AZ.mk (pT (by repeat (first | (with_reducible first | exact HB.out | apply pA | apply pN | apply pD | refine pS ?_ GE572.out) | exact HB.out)) hb); clear BK572; clear HB; have BK572 := n0_; have HB := n1_; clear n0_ n1_; (try clear hb); (try clear hb2); (try clear hk); (try clear hi); have hcz18_0 : w17.cell? ⟨gb572, 0, none⟩ = some (.slice A0_0 l0_0.length c0_0) := (bc BK572.out 0).trans rfl; have hcz18_1 : w17.cell? ⟨gb572, 1, none⟩ = some (.slice A0_1 l0_1.length c0_1) := (bc BK572.out 1).trans rfl; have hcz18_2 : w17.cell? ⟨gb572, 2, none⟩ = some (.slice A0_2 l0_2.length c0_2) := (bc BK572.out 2).trans rfl; have hcz18_3 : w17.cell? ⟨gb572, 3, none⟩ = some (.slice A0_3 l0_3.length c0_3) := (bc BK572.out 3).trans rfl; have hfz18_0 := bf BK572.out 0; have hfz18_1 := bf BK572.out 1; have hfz18_2 := bf BK572.out 2; have hfz18_3 := bf BK572.out 3) | ((with_reducible refine gate_callee (f := 9) rfl ?_); refine goesL_ (some 21) rfl rfl Try.func9 (by kernel_rfl) rfl #[.agg #[.slice A0_0 l0_0.length c0_0, .slice A0_1 l0_1.length c0_1, .slice A0_2 l0_2.length c0_2, .slice A0_3 l0_3.length c0_3]] rfl (by (try simp only [List.map_toArray, List.map_cons, List.map_nil]); first | done | rfl | (simp only [List.length_drop, List.length_take]; rfl)) ?_; (with_reducible refine (laws_toAlgebra.calls k _ _ l0_0 _ _ l0_1 _ _ l0_2 _ _ l0_3 t574 t577 t580 t583 _ ?side1 ?side2 ?side3 ?side4 ?side5 ?side6 ?side7 ?side8 A10.out).mono ?_); (case side1 => repeat (first | exact (Kd.C_below HR0_0.out HB.out) | (with_reducible refine Kd.C_alloc ?_ _) | (with_reducible refine Kd.C_drewN ?_ _) | (with_reducible refine Kd.C_drew ?_))); (case side2 => exact HC0_0.out); (case side3 => repeat (first | exact (Kd.C_below HR0_1.out HB.out) | (with_reducible refine Kd.C_alloc ?_ _) | (with_reducible refine Kd.C_drewN ?_ _) | (with_reducible refine Kd.C_drew ?_))); (case side4 => exact HC0_1.out); (case side5 => repeat (first | exact (Kd.C_below HR0_2.out HB.out) | (with_reducible refine Kd.C_alloc ?_ _) | (with_reducible refine Kd.C_drewN ?_ _) | (with_reducible refine Kd.C_drew ?_))); (case side6 => exact HC0_2.out); (case side7 => repeat (first | exact (Kd.C_below HR0_3.out HB.out) | (with_reducible refine Kd.C_alloc ?_ _) | (with_reducible refine Kd.C_drewN ?_ _) | (with_reducible refine Kd.C_drew ?_))); (case side8 => exact HC0_3.out); rintro e w19 ⟨v575, v578, v581, v584, rfl, ho0, ho1, ho2, ho3, hb⟩; refine ⟨_, rfl, ?_⟩; have n0_ := AZ.mk (Kd.S_lower ho0 (pZ (by repeat (first | (with_reducible first | exact HB.out | apply pA | apply pN | apply pD | refine pS ?_ GE572.out) | exact HB.out)))); have n1_ := AZ.mk (Kd.S_lower ho1 (pZ (by repeat (first | (with_reducible first | exact HB.out | apply pA | apply pN | apply pD | refine pS ?_ GE572.out) | exact HB.out)))); have n2_ := AZ.mk (Kd.R_lower ho2 (pZ (by repeat (first | (with_reducible first | exact HB.out | apply pA | apply pN | apply pD | refine pS ?_ GE572.out) | exact HB.out)))); have n3_ := AZ.mk (Kd.R_lower ho3 (pZ (by repeat (first | (with_reducible first | exact HB.out | apply pA | apply pN | apply pD | refine pS ?_ GE572.out) | exact HB.out)))); have n4_ := AZ.mk (bb_ (g := gb572) (o := .cells #[.slice A0_0 l0_0.length c0_0, .slice A0_1 l0_1.length c0_1, .slice A0_2 l0_2.length c0_2, .slice A0_3 l0_3.length c0_3] 26 (0, 0)) (by (with_reducible repeat (first | refine bn_ ?_ _ | refine bd_ ?_ | refine ba_ ?_ _)); exact BK572.out) hb); have n5_ := AZ.mk (pT (by repeat (first | (with_reducible first | exact HB.out | apply pA | apply pN | apply pD | refine pS ?_ GE572.out) | exact HB.out)) hb); clear BK572; clear HB; have HO576 := n0_; have HO579 := n1_; have HO582 := n2_; have HO585 := n3_; have BK572 := n4_; have HB := n5_; clear n0_ n1_ n2_ n3_ n4_ n5_; (try clear hb); (try clear hb2); (try clear hk); (try clear hi); (try clear ho0); (try clear ho1); (try clear ho2); (try clear ho3); obtain ⟨Ao20, co20, eo20⟩ := Kd.S_slice HO576.out; subst eo20; obtain ⟨Ao21, co21, eo21⟩ := Kd.S_slice HO579.out; subst eo21; obtain ⟨Ao22, co22, eo22⟩ := Kd.R_slice HO582.out; subst eo22; obtain ⟨Ao23, co23, eo23⟩ := Kd.R_slice HO585.out; subst eo23) | ((with_reducible refine gate_callee (f := 20) rfl ?_); refine goesL_ (some 23) rfl rfl Try.func20 (by kernel_rfl) rfl #[.agg #[.slice Ao20 t574.length co20, .slice Ao21 t577.length co21, .slice Ao22 t580.length co22, .slice Ao23 t583.length co23], .string a1] rfl (by (try simp only [List.map_toArray, List.map_cons, List.map_nil]); first | done | rfl | (simp only [List.length_drop, List.length_take]; rfl)) ?_; (with_reducible refine (spec_AlgebraTakes.calls k _ _ t574 _ _ t577 _ _ t580 _ _ t583 a1 t586 t587 _ ?side1 ?side2 ?side3 ?side4 ?side5 ?side6 ?side7 ?side8 A11.out).mono ?_); (case side1 => repeat (first | exact (Kd.S_reads' HO576.out).2.2 | (with_reducible refine Kd.C_alloc ?_ _) | (with_reducible refine Kd.C_drewN ?_ _) | (with_reducible refine Kd.C_drew ?_))); (case side2 => exact (Kd.S_reads' HO576.out).2.1); (case side3 => repeat (first | exact (Kd.S_reads' HO579.out).2.2 | (with_reducible refine Kd.C_alloc ?_ _) | (with_reducible refine Kd.C_drewN ?_ _) | (with_reducible refine Kd.C_drew ?_))); (case side4 => exact (Kd.S_reads' HO579.out).2.1); (case side5 => repeat (first | exact (Kd.R_reads' HO582.out).2.2 | (with_reducible refine Kd.C_alloc ?_ _) | (with_reducible refine Kd.C_drewN ?_ _) | (with_reducible refine Kd.C_drew ?_))); (case side6 => exact (Kd.R_reads' HO582.out).2.1); (case side7 => repeat (first | exact (Kd.R_reads' HO585.out).2.2 | (with_reducible refine Kd.C_alloc ?_ _) | (with_reducible refine Kd.C_drewN ?_ _) | (with_reducible refine Kd.C_drew ?_))); (case side8 => exact (Kd.R_reads' HO585.out).2.1); rintro e w24 ⟨rfl, hb⟩; refine ⟨_, rfl, ?_⟩; have n0_ := AZ.mk (Kd.S_below (by (with_reducible repeat (first | apply Kd.S_alloc | apply Kd.S_drewN | apply Kd.S_drew)); exact HO576.out) hb); have n1_ := AZ.mk (Kd.S_below (by (with_reducible repeat (first | apply Kd.S_alloc | apply Kd.S_drewN | apply Kd.S_drew)); exact HO579.out) hb); have n2_ := AZ.mk (Kd.R_below (by (with_reducible repeat (first | apply Kd.R_alloc | apply Kd.R_drewN | apply Kd.R_drew)); exact HO582.out) hb); have n3_ := AZ.mk (Kd.R_below (by (with_reducible repeat (first | apply Kd.R_alloc | apply Kd.R_drewN | apply Kd.R_drew)); exact HO585.out) hb); have n4_ := AZ.mk (bb_ (g := gb572) (o := .cells #[.slice A0_0 l0_0.length c0_0, .slice A0_1 l0_1.length c0_1, .slice A0_2 l0_2.length c0_2, .slice A0_3 l0_3.length c0_3] 26 (0, 0)) (by (with_reducible repeat (first | refine bn_ ?_ _ | refine bd_ ?_ | refine ba_ ?_ _)); exact BK572.out) hb); have n5_ := AZ.mk (pT (by repeat (first | (with_reducible first | exact HB.out | apply pA | apply pN | apply pD | refine pS ?_ GE572.out) | exact HB.out)) hb); clear HO576; clear HO579; clear HO582; clear HO585; clear BK572; clear HB; have HO576 := n0_; have HO579 := n1_; have HO582 := n2_; have HO585 := n3_; have BK572 := n4_; have HB := n5_; clear n0_ n1_ n2_ n3_ n4_ n5_; (try clear hb); (try clear hb2); (try clear hk); (try clear hi); have hcz25_0 : w24.cell? ⟨gb572, 0, none⟩ = some (.slice A0_0 l0_0.length c0_0) := (bc BK572.out 0).trans rfl; have hcz25_1 : w24.cell? ⟨gb572, 1, none⟩ = some (.slice A0_1 l0_1.length c0_1) := (bc BK572.out 1).trans rfl; have hcz25_2 : w24.cell? ⟨gb572, 2, none⟩ = some (.slice A0_2 l0_2.length c0_2) := (bc BK572.out 2).trans rfl; have hcz25_3 : w24.cell? ⟨gb572, 3, none⟩ = some (.slice A0_3 l0_3.length c0_3) := (bc BK572.out 3).trans rfl; have hfz25_0 := bf BK572.out 0; have hfz25_1 := bf BK572.out 1; have hfz25_2 := bf BK572.out 2; have hfz25_3 := bf BK572.out 3) | ((with_reducible refine gate_callee (f := 9) rfl ?_); refine goesL_ (some 27) rfl rfl Try.func9 (by kernel_rfl) rfl #[.agg #[.slice A0_0 l0_0.length c0_0, .slice A0_1 l0_1.length c0_1, .slice A0_2 l0_2.length c0_2, .slice A0_3 l0_3.length c0_3]] rfl (by (try simp only [List.map_toArray, List.map_cons, List.map_nil]); first | done | rfl | (simp only [List.length_drop, List.length_take]; rfl)) ?_; (with_reducible refine (laws_toAlgebra.calls k _ _ l0_0 _ _ l0_1 _ _ l0_2 _ _ l0_3 t588 t591 t594 t597 _ ?side1 ?side2 ?side3 ?side4 ?side5 ?side6 ?side7 ?side8 A12.out).mono ?_); (case side1 => repeat (first | exact (Kd.C_below HR0_0.out HB.out) | (with_reducible refine Kd.C_alloc ?_ _) | (with_reducible refine Kd.C_drewN ?_ _) | (with_reducible refine Kd.C_drew ?_))); (case side2 => exact HC0_0.out); (case side3 => repeat (first | exact (Kd.C_below HR0_1.out HB.out) | (with_reducible refine Kd.C_alloc ?_ _) | (with_reducible refine Kd.C_drewN ?_ _) | (with_reducible refine Kd.C_drew ?_))); (case side4 => exact HC0_1.out); (case side5 => repeat (first | exact (Kd.C_below HR0_2.out HB.out) | (with_reducible refine Kd.C_alloc ?_ _) | (with_reducible refine Kd.C_drewN ?_ _) | (with_reducible refine Kd.C_drew ?_))); (case side6 => exact HC0_2.out); (case side7 => repeat (first | exact (Kd.C_below HR0_3.out HB.out) | (with_reducible refine Kd.C_alloc ?_ _) | (with_reducible refine Kd.C_drewN ?_ _) | (with_reducible refine Kd.C_drew ?_))); (case side8 => exact HC0_3.out); rintro e w26 ⟨v589, v592, v595, v598, rfl, ho0, ho1, ho2, ho3, hb⟩; refine ⟨_, rfl, ?_⟩; have n0_ := AZ.mk (Kd.S_mono (Kd.S_told (Kd.S_told (Kd.S_told (Kd.S_old (by (with_reducible repeat (first | apply Kd.S_alloc | apply Kd.S_drewN | apply Kd.S_drew)); exact HO576.out) hb) (Kd.S_base ho0)) (Kd.S_base ho1)) (Kd.R_base ho2)) (fun _ h_ => h_.1)); have n1_ := AZ.mk (Kd.S_mono (Kd.S_told (Kd.S_told (Kd.S_told (Kd.S_old (by (with_reducible repeat (first | apply Kd.S_alloc | apply Kd.S_drewN | apply Kd.S_drew)); exact HO579.out) hb) (Kd.S_base ho0)) (Kd.S_base ho1)) (Kd.R_base ho2)) (fun _ h_ => h_.1)); have n2_ := AZ.mk (Kd.R_elder' (by (with_reducible repeat (first | apply Kd.R_alloc | apply Kd.R_drewN | apply Kd.R_drew)); exact HO582.out) (Kd.R_base ho2) hb); have n3_ := AZ.mk (Kd.R_elder' (by (with_reducible repeat (first | apply Kd.R_alloc | apply Kd.R_drewN | apply Kd.R_drew)); exact HO585.out) (Kd.R_base ho3) hb); have n4_ := AZ.mk (Kd.S_lower (Kd.S_new' (Kd.S_new' (Kd.S_new' ho0 (Kd.S_lt (by (with_reducible repeat (first | apply Kd.S_alloc | apply Kd.S_drewN | apply Kd.S_drew)); exact HO576.out))) (Kd.S_lt (by (with_reducible repeat (first | apply Kd.S_alloc | apply Kd.S_drewN | apply Kd.S_drew)); exact HO579.out))) (Kd.R_lt (by (with_reducible repeat (first | apply Kd.R_alloc | apply Kd.R_drewN | apply Kd.R_drew)); exact HO582.out))) (pZ (by repeat (first | (with_reducible first | exact HB.out | apply pA | apply pN | apply pD | refine pS ?_ GE572.out) | exact HB.out)))); have n5_ := AZ.mk (Kd.S_lower (Kd.S_new' (Kd.S_new' (Kd.S_new' ho1 (Kd.S_lt (by (with_reducible repeat (first | apply Kd.S_alloc | apply Kd.S_drewN | apply Kd.S_drew)); exact HO576.out))) (Kd.S_lt (by (with_reducible repeat (first | apply Kd.S_alloc | apply Kd.S_drewN | apply Kd.S_drew)); exact HO579.out))) (Kd.R_lt (by (with_reducible repeat (first | apply Kd.R_alloc | apply Kd.R_drewN | apply Kd.R_drew)); exact HO582.out))) (pZ (by repeat (first | (with_reducible first | exact HB.out | apply pA | apply pN | apply pD | refine pS ?_ GE572.out) | exact HB.out)))); have n6_ := AZ.mk (Kd.R_lower (Kd.R_new' ho2 (Kd.R_lt (by (with_reducible repeat (first | apply Kd.R_alloc | apply Kd.R_drewN | apply Kd.R_drew)); exact HO582.out))) (pZ (by repeat (first | (with_reducible first | exact HB.out | apply pA | apply pN | apply pD | refine pS ?_ GE572.out) | exact HB.out)))); have n7_ := AZ.mk (Kd.R_lower (Kd.R_new' ho3 (Kd.R_lt (by (with_reducible repeat (first | apply Kd.R_alloc | apply Kd.R_drewN | apply Kd.R_drew)); exact HO585.out))) (pZ (by repeat (first | (with_reducible first | exact HB.out | apply pA | apply pN | apply pD | refine pS ?_ GE572.out) | exact HB.out)))); have n8_ := AZ.mk (bb_ (g := gb572) (o := .cells #[.slice A0_0 l0_0.length c0_0, .slice A0_1 l0_1.length c0_1, .slice A0_2 l0_2.length c0_2, .slice A0_3 l0_3.length c0_3] 26 (0, 0)) (by (with_reducible repeat (first | refine bn_ ?_ _ | refine bd_ ?_ | refine ba_ ?_ _)); exact BK572.out) hb); have n9_ := AZ.mk (pT (by repeat (first | (with_reducible first | exact HB.out | apply pA | apply pN | apply pD | refine pS ?_ GE572.out) | exact HB.out)) hb); clear HO576; clear HO579; clear HO582; clear HO585; clear BK572; clear HB; have HO576 := n0_; have HO579 := n1_; have HO582 := n2_; have HO585 := n3_; have HO590 := n4_; have HO593 := n5_; have HO596 := n6_; have HO599 := n7_; have BK572 := n8_; have HB := n9_; clear n0_ n1_ n2_ n3_ n4_ n5_ n6_ n7_ n8_ n9_; (try clear hb); (try clear hb2); (try clear hk); (try clear hi); (try clear ho0); (try clear ho1); (try clear ho2); (try clear ho3)) | ((with_reducible refine gate_dst (N := 8) rfl ?_); refine box_event ?hg (N := 8) ?hd (cs := #[.slice none 0 0, .slice none 0 0, .slice none 0 0, .slice none 0 0]) (t := 29) ?hr ?_; (case hd => rfl); (case hg => rfl); (case hr => first | (go_simp; done) | (go_simp; rfl)); intro gb600 hg w27 hbox hb; have n0_ := AZ.mk (Kd.S_below (by (with_reducible repeat (first | apply Kd.S_alloc | apply Kd.S_drewN | apply Kd.S_drew)); exact HO576.out) hb); have n1_ := AZ.mk (Kd.S_below (by (with_reducible repeat (first | apply Kd.S_alloc | apply Kd.S_drewN | apply Kd.S_drew)); exact HO579.out) hb); have n2_ := AZ.mk (Kd.R_below (by (with_reducible repeat (first | apply Kd.R_alloc | apply Kd.R_drewN | apply Kd.R_drew)); exact HO582.out) hb); have n3_ := AZ.mk (Kd.R_below (by (with_reducible repeat (first | apply Kd.R_alloc | apply Kd.R_drewN | apply Kd.R_drew)); exact HO585.out) hb); have n4_ := AZ.mk (Kd.S_below (by (with_reducible repeat (first | apply Kd.S_alloc | apply Kd.S_drewN | apply Kd.S_drew)); exact HO590.out) hb); have n5_ := AZ.mk (Kd.S_below (by (with_reducible repeat (first | apply Kd.S_alloc | apply Kd.S_drewN | apply Kd.S_drew)); exact HO593.out) hb); have n6_ := AZ.mk (Kd.R_below (by (with_reducible repeat (first | apply Kd.R_alloc | apply Kd.R_drewN | apply Kd.R_drew)); exact HO596.out) hb); have n7_ := AZ.mk (Kd.R_below (by (with_reducible repeat (first | apply Kd.R_alloc | apply Kd.R_drewN | apply Kd.R_drew)); exact HO599.out) hb); have n8_ := AZ.mk (bb_ (g := gb572) (o := .cells #[.slice A0_0 l0_0.length c0_0, .slice A0_1 l0_1.length c0_1, .slice A0_2 l0_2.length c0_2, .slice A0_3 l0_3.length c0_3] 26 (0, 0)) (by (with_reducible repeat (first | refine bn_ ?_ _ | refine bd_ ?_ | refine ba_ ?_ _)); exact BK572.out) hb); have n9_ := AZ.mk (pT (by repeat (first | (with_reducible first | exact HB.out | apply pA | apply pN | apply pD | refine pS ?_ GE572.out) | exact HB.out)) hb); have n10_ := AZ.mk (hbox); have n11_ := AZ.mk ((by rw [hg]; exact (pZ (by repeat (first | (with_reducible first | exact HB.out | apply pA | apply pN | apply pD | refine pS ?_ GE572.out) | exact HB.out))) : w.heap.size ≤ gb600)); have n12_ := AZ.mk ((by rw [hg]; exact (pZ (by repeat (first | (with_reducible first | exact HB.out | apply pA | apply pN | apply pD | refine pS ?_ GE572.out) | exact HB.out))) : w.heap.size ≤ gb600)); have n13_ := AZ.mk ((by rw [hg]; exact Nat.ne_of_lt (blk_lt (g := gb572) (o := .cells #[.slice A0_0 l0_0.length c0_0, .slice A0_1 l0_1.length c0_1, .slice A0_2 l0_2.length c0_2, .slice A0_3 l0_3.length c0_3] 26 (0, 0)) (by (with_reducible repeat (first | refine bn_ ?_ _ | refine bd_ ?_ | refine ba_ ?_ _)); exact BK572.out)) : gb572 ≠ gb600)); have n14_ := AZ.mk ((by rw [hg]; exact Nat.ne_of_gt (blk_lt (g := gb572) (o := .cells #[.slice A0_0 l0_0.length c0_0, .slice A0_1 l0_1.length c0_1, .slice A0_2 l0_2.length c0_2, .slice A0_3 l0_3.length c0_3] 26 (0, 0)) (by (with_reducible repeat (first | refine bn_ ?_ _ | refine bd_ ?_ | refine ba_ ?_ _)); exact BK572.out)) : gb600 ≠ gb572)); clear HO576; clear HO579; clear HO582; clear HO585; clear HO590; clear HO593; clear HO596; clear HO599; clear BK572; clear HB; have HO576 := n0_; have HO579 := n1_; have HO582 := n2_; have HO585 := n3_; have HO590 := n4_; have HO593 := n5_; have HO596 := n6_; have HO599 := n7_; have BK572 := n8_; have HB := n9_; have BK600 := n10_; have GW600 := n11_; have GE600 := n12_; have NB572_600 := n13_; have NB600_572 := n14_; clear n0_ n1_ n2_ n3_ n4_ n5_ n6_ n7_ n8_ n9_ n10_ n11_ n12_ n13_ n14_; clear hb hbox hg; obtain ⟨Ao28, co28, eo28⟩ := Kd.S_slice HO590.out; subst eo28; have hnb29 := NB600_572.out; have hnc29 := NB572_600.out; have hcz30_0 : w27.cell? ⟨gb600, 0, none⟩ = some (.slice none 0 0) := (bc BK600.out 0).trans rfl; have hcz30_1 : w27.cell? ⟨gb600, 1, none⟩ = some (.slice none 0 0) := (bc BK600.out 1).trans rfl; have hcz30_2 : w27.cell? ⟨gb600, 2, none⟩ = some (.slice none 0 0) := (bc BK600.out 2).trans rfl; have hcz30_3 : w27.cell? ⟨gb600, 3, none⟩ = some (.slice none 0 0) := (bc BK600.out 3).trans rfl; have hfz30_0 := bf BK600.out 0; have hfz30_1 := bf BK600.out 1; have hfz30_2 := bf BK600.out 2; have hfz30_3 := bf BK600.out 3; obtain ⟨Ao31, co31, eo31⟩ := Kd.S_slice HO593.out; subst eo31; obtain ⟨Ao32, co32, eo32⟩ := Kd.R_slice HO596.out; subst eo32; obtain ⟨Ao33, co33, eo33⟩ := Kd.R_slice HO599.out; subst eo33) | ((with_reducible refine gate_callee (f := 21) rfl ?_); refine goesL_ (some 31) rfl rfl Try.func21 (by kernel_rfl) rfl #[.agg #[.slice Ao28 t588.length co28, .slice Ao31 t591.length co31, .slice Ao32 t594.length co32, .slice Ao33 t597.length co33], .string a1] rfl (by (try simp only [List.map_toArray, List.map_cons, List.map_nil]); first | done | rfl | (simp only [List.length_drop, List.length_take]; rfl)) ?_; (with_reducible refine (impl_AlgebraTakes.calls k _ _ t588 _ _ t591 _ _ t594 _ _ t597 a1 t601 t602 _ ?side1 ?side2 ?side3 ?side4 ?side5 ?side6 ?side7 ?side8 A13.out).mono ?_); (case side1 => refine (Kd.S_reads' (e := 23) (base := w.heap.size) (ok := fun k_ => ((((some k_ ≠ (.slice Ao31 t591.length co31 : Value).ownBlock ∧ some k_ ≠ (.slice Ao32 t594.length co32 : Value).ownBlock) ∧ some k_ ≠ (.slice Ao20 t574.length co20 : Value).ownBlock) ∧ some k_ ≠ (.slice Ao21 t577.length co21 : Value).ownBlock) ∧ some k_ ≠ (.slice Ao22 t580.length co22 : Value).ownBlock)) (n := t588.length) (c := co28) ?_).2.2; exact (by (with_reducible repeat (first | apply Kd.S_alloc | apply Kd.S_drewN | apply Kd.S_drew)); exact (Kd.S_mono (Kd.S_far (p := ⟨gb600, 3, none⟩) (Kd.S_far (p := ⟨gb600, 2, none⟩) (Kd.S_far (p := ⟨gb600, 1, none⟩) (Kd.S_far (p := ⟨gb600, 0, none⟩) (Kd.S_types HO590.out BK600.out (by decide)) (fun _ hk => hk.2) (.slice Ao28 t588.length co28)) (fun _ hk => hk.2) (.slice Ao31 t591.length co31)) (fun _ hk => hk.2) (.slice Ao32 t594.length co32)) (fun _ hk => hk.2) (.slice Ao33 t597.length co33)) (fun _ h_ => h_.1)))); (case side2 => exact (Kd.S_reads' HO590.out).2.1); (case side3 => refine (Kd.S_reads' (e := 23) (base := w.heap.size) (ok := fun k_ => ((((some k_ ≠ (.slice Ao28 t588.length co28 : Value).ownBlock ∧ some k_ ≠ (.slice Ao32 t594.length co32 : Value).ownBlock) ∧ some k_ ≠ (.slice Ao20 t574.length co20 : Value).ownBlock) ∧ some k_ ≠ (.slice Ao21 t577.length co21 : Value).ownBlock) ∧ some k_ ≠ (.slice Ao22 t580.length co22 : Value).ownBlock)) (n := t591.length) (c := co31) ?_).2.2; exact (by (with_reducible repeat (first | apply Kd.S_alloc | apply Kd.S_drewN | apply Kd.S_drew)); exact (Kd.S_mono (Kd.S_far (p := ⟨gb600, 3, none⟩) (Kd.S_far (p := ⟨gb600, 2, none⟩) (Kd.S_far (p := ⟨gb600, 1, none⟩) (Kd.S_far (p := ⟨gb600, 0, none⟩) (Kd.S_types HO593.out BK600.out (by decide)) (fun _ hk => hk.2) (.slice Ao28 t588.length co28)) (fun _ hk => hk.2) (.slice Ao31 t591.length co31)) (fun _ hk => hk.2) (.slice Ao32 t594.length co32)) (fun _ hk => hk.2) (.slice Ao33 t597.length co33)) (fun _ h_ => h_.1)))); (case side4 => exact (Kd.S_reads' HO593.out).2.1); (case side5 => refine (Kd.R_reads' (e := 2) (base := w.heap.size) (ok := fun k_ => (True ∧ some k_ ≠ (.slice Ao22 t580.length co22 : Value).ownBlock)) (n := t594.length) (c := co32) ?_).2.2; exact (by (with_reducible repeat (first | apply Kd.R_alloc | apply Kd.R_drewN | apply Kd.R_drew)); exact (Kd.R_mono (Kd.R_far (p := ⟨gb600, 3, none⟩) (Kd.R_far (p := ⟨gb600, 2, none⟩) (Kd.R_far (p := ⟨gb600, 1, none⟩) (Kd.R_far (p := ⟨gb600, 0, none⟩) (Kd.R_types HO596.out BK600.out (by decide)) (fun _ hk => hk.2) (.slice Ao28 t588.length co28)) (fun _ hk => hk.2) (.slice Ao31 t591.length co31)) (fun _ hk => hk.2) (.slice Ao32 t594.length co32)) (fun _ hk => hk.2) (.slice Ao33 t597.length co33)) (fun _ h_ => h_.1)))); (case side6 => exact (Kd.R_reads' HO596.out).2.1); (case side7 => refine (Kd.R_reads' (e := 4) (base := w.heap.size) (ok := fun k_ => (True ∧ some k_ ≠ (.slice Ao23 t583.length co23 : Value).ownBlock)) (n := t597.length) (c := co33) ?_).2.2; exact (by (with_reducible repeat (first | apply Kd.R_alloc | apply Kd.R_drewN | apply Kd.R_drew)); exact (Kd.R_mono (Kd.R_far (p := ⟨gb600, 3, none⟩) (Kd.R_far (p := ⟨gb600, 2, none⟩) (Kd.R_far (p := ⟨gb600, 1, none⟩) (Kd.R_far (p := ⟨gb600, 0, none⟩) (Kd.R_types HO599.out BK600.out (by decide)) (fun _ hk => hk.2) (.slice Ao28 t588.length co28)) (fun _ hk => hk.2) (.slice Ao31 t591.length co31)) (fun _ hk => hk.2) (.slice Ao32 t594.length co32)) (fun _ hk => hk.2) (.slice Ao33 t597.length co33)) (fun _ h_ => h_.1)))); (case side8 => exact (Kd.R_reads' HO599.out).2.1); rintro e w34 ⟨rfl, hb⟩; refine ⟨_, rfl, ?_⟩; have n0_ := AZ.mk (Kd.S_below (by (with_reducible repeat (first | apply Kd.S_alloc | apply Kd.S_drewN | apply Kd.S_drew)); exact (Kd.S_mono (Kd.S_far (p := ⟨gb600, 3, none⟩) (Kd.S_far (p := ⟨gb600, 2, none⟩) (Kd.S_far (p := ⟨gb600, 1, none⟩) (Kd.S_far (p := ⟨gb600, 0, none⟩) (Kd.S_types HO576.out BK600.out (by decide)) (fun _ hk => hk.2) (.slice Ao28 t588.length co28)) (fun _ hk => hk.2) (.slice Ao31 t591.length co31)) (fun _ hk => hk.2) (.slice Ao32 t594.length co32)) (fun _ hk => hk.2) (.slice Ao33 t597.length co33)) (fun _ h_ => h_.1))) hb); have n1_ := AZ.mk (Kd.S_below (by (with_reducible repeat (first | apply Kd.S_alloc | apply Kd.S_drewN | apply Kd.S_drew)); exact (Kd.S_mono (Kd.S_far (p := ⟨gb600, 3, none⟩) (Kd.S_far (p := ⟨gb600, 2, none⟩) (Kd.S_far (p := ⟨gb600, 1, none⟩) (Kd.S_far (p := ⟨gb600, 0, none⟩) (Kd.S_types HO579.out BK600.out (by decide)) (fun _ hk => hk.2) (.slice Ao28 t588.length co28)) (fun _ hk => hk.2) (.slice Ao31 t591.length co31)) (fun _ hk => hk.2) (.slice Ao32 t594.length co32)) (fun _ hk => hk.2) (.slice Ao33 t597.length co33)) (fun _ h_ => h_.1))) hb); have n2_ := AZ.mk (Kd.R_below (by (with_reducible repeat (first | apply Kd.R_alloc | apply Kd.R_drewN | apply Kd.R_drew)); exact (Kd.R_mono (Kd.R_far (p := ⟨gb600, 3, none⟩) (Kd.R_far (p := ⟨gb600, 2, none⟩) (Kd.R_far (p := ⟨gb600, 1, none⟩) (Kd.R_far (p := ⟨gb600, 0, none⟩) (Kd.R_types HO582.out BK600.out (by decide)) (fun _ hk => hk.2) (.slice Ao28 t588.length co28)) (fun _ hk => hk.2) (.slice Ao31 t591.length co31)) (fun _ hk => hk.2) (.slice Ao32 t594.length co32)) (fun _ hk => hk.2) (.slice Ao33 t597.length co33)) (fun _ h_ => h_.1))) hb); have n3_ := AZ.mk (Kd.R_below (by (with_reducible repeat (first | apply Kd.R_alloc | apply Kd.R_drewN | apply Kd.R_drew)); exact (Kd.R_mono (Kd.R_far (p := ⟨gb600, 3, none⟩) (Kd.R_far (p := ⟨gb600, 2, none⟩) (Kd.R_far (p := ⟨gb600, 1, none⟩) (Kd.R_far (p := ⟨gb600, 0, none⟩) (Kd.R_types HO585.out BK600.out (by decide)) (fun _ hk => hk.2) (.slice Ao28 t588.length co28)) (fun _ hk => hk.2) (.slice Ao31 t591.length co31)) (fun _ hk => hk.2) (.slice Ao32 t594.length co32)) (fun _ hk => hk.2) (.slice Ao33 t597.length co33)) (fun _ h_ => h_.1))) hb); have n4_ := AZ.mk (Kd.S_below (by (with_reducible repeat (first | apply Kd.S_alloc | apply Kd.S_drewN | apply Kd.S_drew)); exact (Kd.S_mono (Kd.S_far (p := ⟨gb600, 3, none⟩) (Kd.S_far (p := ⟨gb600, 2, none⟩) (Kd.S_far (p := ⟨gb600, 1, none⟩) (Kd.S_far (p := ⟨gb600, 0, none⟩) (Kd.S_types HO590.out BK600.out (by decide)) (fun _ hk => hk.2) (.slice Ao28 t588.length co28)) (fun _ hk => hk.2) (.slice Ao31 t591.length co31)) (fun _ hk => hk.2) (.slice Ao32 t594.length co32)) (fun _ hk => hk.2) (.slice Ao33 t597.length co33)) (fun _ h_ => h_.1))) hb); have n5_ := AZ.mk (Kd.S_below (by (with_reducible repeat (first | apply Kd.S_alloc | apply Kd.S_drewN | apply Kd.S_drew)); exact (Kd.S_mono (Kd.S_far (p := ⟨gb600, 3, none⟩) (Kd.S_far (p := ⟨gb600, 2, none⟩) (Kd.S_far (p := ⟨gb600, 1, none⟩) (Kd.S_far (p := ⟨gb600, 0, none⟩) (Kd.S_types HO593.out BK600.out (by decide)) (fun _ hk => hk.2) (.slice Ao28 t588.length co28)) (fun _ hk => hk.2) (.slice Ao31 t591.length co31)) (fun _ hk => hk.2) (.slice Ao32 t594.length co32)) (fun _ hk => hk.2) (.slice Ao33 t597.length co33)) (fun _ h_ => h_.1))) hb); have n6_ := AZ.mk (Kd.R_below (by (with_reducible repeat (first | apply Kd.R_alloc | apply Kd.R_drewN | apply Kd.R_drew)); exact (Kd.R_mono (Kd.R_far (p := ⟨gb600, 3, none⟩) (Kd.R_far (p := ⟨gb600, 2, none⟩) (Kd.R_far (p := ⟨gb600, 1, none⟩) (Kd.R_far (p := ⟨gb600, 0, none⟩) (Kd.R_types HO596.out BK600.out (by decide)) (fun _ hk => hk.2) (.slice Ao28 t588.length co28)) (fun _ hk => hk.2) (.slice Ao31 t591.length co31)) (fun _ hk => hk.2) (.slice Ao32 t594.length co32)) (fun _ hk => hk.2) (.slice Ao33 t597.length co33)) (fun _ h_ => h_.1))) hb); have n7_ := AZ.mk (Kd.R_below (by (with_reducible repeat (first | apply Kd.R_alloc | apply Kd.R_drewN | apply Kd.R_drew)); exact (Kd.R_mono (Kd.R_far (p := ⟨gb600, 3, none⟩) (Kd.R_far (p := ⟨gb600, 2, none⟩) (Kd.R_far (p := ⟨gb600, 1, none⟩) (Kd.R_far (p := ⟨gb600, 0, none⟩) (Kd.R_types HO599.out BK600.out (by decide)) (fun _ hk => hk.2) (.slice Ao28 t588.length co28)) (fun _ hk => hk.2) (.slice Ao31 t591.length co31)) (fun _ hk => hk.2) (.slice Ao32 t594.length co32)) (fun _ hk => hk.2) (.slice Ao33 t597.length co33)) (fun _ h_ => h_.1))) hb); have n8_ := AZ.mk (bb_ (g := gb572) (o := .cells #[.slice A0_0 l0_0.length c0_0, .slice A0_1 l0_1.length c0_1, .slice A0_2 l0_2.length c0_2, .slice A0_3 l0_3.length c0_3] 26 (0, 0)) (by (with_reducible repeat (first | refine bn_ ?_ _ | refine bd_ ?_ | refine ba_ ?_ _)); refine blk_far ?_ NB572_600.out _; (with_reducible repeat (first | refine bn_ ?_ _ | refine bd_ ?_ | refine ba_ ?_ _)); refine blk_far ?_ NB572_600.out _; (with_reducible repeat (first | refine bn_ ?_ _ | refine bd_ ?_ | refine ba_ ?_ _)); refine blk_far ?_ NB572_600.out _; (with_reducible repeat (first | refine bn_ ?_ _ | refine bd_ ?_ | refine ba_ ?_ _)); refine blk_far ?_ NB572_600.out _; (with_reducible repeat (first | refine bn_ ?_ _ | refine bd_ ?_ | refine ba_ ?_ _)); exact BK572.out) hb); have n9_ := AZ.mk (bb_ (g := gb600) (o := .cells #[.slice Ao28 t588.length co28, .slice Ao31 t591.length co31, .slice Ao32 t594.length co32, .slice Ao33 t597.length co33] 29 (0, 0)) (by (with_reducible repeat (first | refine bn_ ?_ _ | refine bd_ ?_ | refine ba_ ?_ _)); refine blk_put (cs := #[.slice Ao28 t588.length co28, .slice Ao31 t591.length co31, .slice Ao32 t594.length co32, .slice none 0 0]) ?_ 3 _ rfl; (with_reducible repeat (first | refine bn_ ?_ _ | refine bd_ ?_ | refine ba_ ?_ _)); refine blk_put (cs := #[.slice Ao28 t588.length co28, .slice Ao31 t591.length co31, .slice none 0 0, .slice none 0 0]) ?_ 2 _ rfl; (with_reducible repeat (first | refine bn_ ?_ _ | refine bd_ ?_ | refine ba_ ?_ _)); refine blk_put (cs := #[.slice Ao28 t588.length co28, .slice none 0 0, .slice none 0 0, .slice none 0 0]) ?_ 1 _ rfl; (with_reducible repeat (first | refine bn_ ?_ _ | refine bd_ ?_ | refine ba_ ?_ _)); refine blk_put (cs := #[.slice none 0 0, .slice none 0 0, .slice none 0 0, .slice none 0 0]) ?_ 0 _ rfl; (with_reducible repeat (first | refine bn_ ?_ _ | refine bd_ ?_ | refine ba_ ?_ _)); exact BK600.out) hb); have n10_ := AZ.mk (pT (by repeat (first | (with_reducible first | exact HB.out | apply pA | apply pN | apply pD | refine pS ?_ GE572.out | refine pS ?_ GE600.out) | exact HB.out)) hb); clear HO576; clear HO579; clear HO582; clear HO585; clear HO590; clear HO593; clear HO596; clear HO599; clear BK572; clear BK600; clear HB; have HO576 := n0_; have HO579 := n1_; have HO582 := n2_; have HO585 := n3_; have HO590 := n4_; have HO593 := n5_; have HO596 := n6_; have HO599 := n7_; have BK572 := n8_; have BK600 := n9_; have HB := n10_; clear n0_ n1_ n2_ n3_ n4_ n5_ n6_ n7_ n8_ n9_ n10_; (try clear hb); (try clear hb2); (try clear hk); (try clear hi)))
 (try simp only [Act.put, sA, sB, sC])
 go_cut [41] (fun v41 wc => ∃ (kq : Nat) (x41_13 : Bool), v41 = .bool x41_13 ∧ AZ (laws_FnExactAlgebraTakes.j0 kq x41_13 l0_0 l0_1 l0_2 l0_3 t588 t591 t594 t597 = some r) ∧ AZ (kq ≤ k) ∧ AZ (Kd.S (Kd.slice 2 (Kd.int .i64)) 23 wc w.heap.size (fun k_ => some k_ ≠ ((.slice Ao31 t591.length co31) : Value).ownBlock ∧ some k_ ≠ ((.slice Ao32 t594.length co32) : Value).ownBlock) (.slice Ao28 t588.length co28) t588) ∧ AZ (Kd.S (Kd.slice 2 (Kd.int .i64)) 23 wc w.heap.size (fun k_ => some k_ ≠ ((.slice Ao28 t588.length co28) : Value).ownBlock ∧ some k_ ≠ ((.slice Ao32 t594.length co32) : Value).ownBlock) (.slice Ao31 t591.length co31) t591) ∧ AZ (Kd.R (Kd.int .i64) 2 wc w.heap.size (fun _ => True) (.slice Ao32 t594.length co32) t594) ∧ AZ (Kd.R Kd.bool 4 wc w.heap.size (fun _ => True) (.slice Ao33 t597.length co33) t597) ∧ AZ (wc.heap[gb572]? = some (.cells #[(.slice A0_0 l0_0.length c0_0), (.slice A0_1 l0_1.length c0_1), (.slice A0_2 l0_2.length c0_2), (.slice A0_3 l0_3.length c0_3)] 26 (0, 0))) ∧ AZ (wc.heap[gb600]? = some (.cells #[(.slice Ao28 t588.length co28), (.slice Ao31 t591.length co31), (.slice Ao32 t594.length co32), (.slice Ao33 t597.length co33)] 29 (0, 0))) ∧ AZ (Below w.heap.size w wc))
 case first =>
  have H := HC14.out
  clear HC14
  by_cases c35 : (t601 != t586) = true
  rotate_left
  ·rw [if_neg c35] at H
   have c35b0 : (t601 != t586) = false := by simpa using c35
   (try (have c35b1 : decide (t601 = t586) = true := by simpa using c35))
   (try (have c35b2 : (t601 == t586) = true := by simpa using c35))
   clear c35
   (first | rw [c35b0] | rw [c35b1] | (simp only [i64_w, i32_w]; rw [c35b0]) | skip)
   have H' := AZ.mk H
   clear H
   go_wp2
   go_meet
   case rel => exact ⟨_, ((t602 != t587)), (by first | rfl | (simp; done) | (simp [*]; done)), H', ⟨by first | omega | exact Nat.le_refl _⟩, ⟨by (with_reducible repeat (first | apply Kd.S_alloc | apply Kd.S_drewN | apply Kd.S_drew)); exact Kd.S_mono HO590.out (fun _ hk => ⟨hk.1.1.1.1, hk.1.1.1.2⟩)⟩, ⟨by (with_reducible repeat (first | apply Kd.S_alloc | apply Kd.S_drewN | apply Kd.S_drew)); exact Kd.S_mono HO593.out (fun _ hk => ⟨hk.1.1.1.1, hk.1.1.1.2⟩)⟩, ⟨by (with_reducible repeat (first | apply Kd.R_alloc | apply Kd.R_drewN | apply Kd.R_drew)); exact Kd.R_mono HO596.out (fun _ hk => trivial)⟩, ⟨by (with_reducible repeat (first | apply Kd.R_alloc | apply Kd.R_drewN | apply Kd.R_drew)); exact Kd.R_mono HO599.out (fun _ hk => trivial)⟩, ⟨by (with_reducible repeat (first | refine bn_ ?_ _ | refine bd_ ?_ | refine ba_ ?_ _)); exact BK572.out⟩, ⟨by (with_reducible repeat (first | refine bn_ ?_ _ | refine bd_ ?_ | refine ba_ ?_ _)); exact BK600.out⟩, ⟨by repeat (first | (with_reducible first | exact HB.out | apply pA | apply pN | apply pD | refine pS ?_ GE572.out | refine pS ?_ GE600.out) | exact HB.out)⟩⟩
  rw [if_pos c35] at H
  have c35b0 : (t601 != t586) = true := c35
  (try (have c35b1 : decide (t601 = t586) = false := by simpa using c35))
  (try (have c35b2 : (t601 == t586) = false := by simpa using c35))
  (try (have c35b3 : ¬ (t601 = t586) := by simpa using c35))
  clear c35
  (first | rw [c35b0] | rw [c35b1] | (simp only [i64_w, i32_w]; rw [c35b0]) | skip)
  have H' := AZ.mk H
  clear H
  go_wp2
  go_meet
  case rel => exact ⟨_, (true), (by first | rfl | (simp; done) | (simp [*]; done)), H', ⟨by first | omega | exact Nat.le_refl _⟩, ⟨by (with_reducible repeat (first | apply Kd.S_alloc | apply Kd.S_drewN | apply Kd.S_drew)); exact Kd.S_mono HO590.out (fun _ hk => ⟨hk.1.1.1.1, hk.1.1.1.2⟩)⟩, ⟨by (with_reducible repeat (first | apply Kd.S_alloc | apply Kd.S_drewN | apply Kd.S_drew)); exact Kd.S_mono HO593.out (fun _ hk => ⟨hk.1.1.1.1, hk.1.1.1.2⟩)⟩, ⟨by (with_reducible repeat (first | apply Kd.R_alloc | apply Kd.R_drewN | apply Kd.R_drew)); exact Kd.R_mono HO596.out (fun _ hk => trivial)⟩, ⟨by (with_reducible repeat (first | apply Kd.R_alloc | apply Kd.R_drewN | apply Kd.R_drew)); exact Kd.R_mono HO599.out (fun _ hk => trivial)⟩, ⟨by (with_reducible repeat (first | refine bn_ ?_ _ | refine bd_ ?_ | refine ba_ ?_ _)); exact BK572.out⟩, ⟨by (with_reducible repeat (first | refine bn_ ?_ _ | refine bd_ ?_ | refine ba_ ?_ _)); exact BK600.out⟩, ⟨by repeat (first | (with_reducible first | exact HB.out | apply pA | apply pN | apply pD | refine pS ?_ GE572.out | refine pS ?_ GE600.out) | exact HB.out)⟩⟩
 case rest =>
  clear HC14
  try clear c2
  try clear p2
  try clear c3
  try clear c3b0
  try clear c3b1
  try clear c6
  try clear c6b0
  try clear c7
  try clear c9
  try clear c20
  try clear c21
  try clear c29
  try clear c35
  try clear c35b0
  try clear c35b1
  try clear c35b2
  try clear hcz16_0
  try clear hcz16_1
  try clear hcz16_2
  try clear hcz16_3
  try clear hcz18_0
  try clear hcz18_1
  try clear hcz18_2
  try clear hcz18_3
  try clear hcz25_0
  try clear hcz25_1
  try clear hcz25_2
  try clear hcz25_3
  try clear hcz30_0
  try clear hcz30_1
  try clear hcz30_2
  try clear hcz30_3
  try clear hcz8_0
  try clear hcz8_1
  try clear hcz8_2
  try clear hcz8_3
  try clear hfz16_0
  try clear hfz16_1
  try clear hfz16_2
  try clear hfz16_3
  try clear hfz18_0
  try clear hfz18_1
  try clear hfz18_2
  try clear hfz18_3
  try clear hfz25_0
  try clear hfz25_1
  try clear hfz25_2
  try clear hfz25_3
  try clear hfz30_0
  try clear hfz30_1
  try clear hfz30_2
  try clear hfz30_3
  try clear hfz8_0
  try clear hfz8_1
  try clear hfz8_2
  try clear hfz8_3
  obtain ⟨kq, x41_13, rfl, HA, HJ13, HO_601000, HO_601001, HO_601002, HO_601003, BK572, BK600, HB⟩ := hcut
  cases kq with
  | zero => exact absurd HA.out (by simp [laws_FnExactAlgebraTakes.j0])
  | succ kj13 =>
   have H := HA.out
   clear HA
   simp only [laws_FnExactAlgebraTakes.j0] at H
   by_cases c36 : x41_13 = true
   ·subst c36
    have H1 : (some false) = some r := by rw [if_pos rfl] at H; exact H
    clear H
    have H := H1
    clear H1
    obtain rfl := Option.some.inj H
    go_wp2
    go_ret
    exact ⟨by first | rfl | (simp [errW_none, errW_some] <;> rfl) | (simp [*, errW_none, errW_some] <;> rfl), by repeat (first | (with_reducible first | exact HB.out | apply pA | apply pN | apply pD | refine pS ?_ GE572.out | refine pS ?_ GE600.out) | exact HB.out)⟩
   replace c36 := Bool.eq_false_iff.mpr c36
   subst c36
   have H1 : ((laws_toAlgebra.f kj13 l0_0 l0_1 l0_2 l0_3).bind fun bt603 => ((laws_eqAlgebra.f kj13 t588 t591 t594 t597 bt603.1 bt603.2.1 bt603.2.2.1 bt603.2.2.2).bind fun t615 => (if t615 = true then (some true) else (some false)))) = some r := by rw [if_neg (show ¬ (false = true) by decide)] at H; exact H
   clear H
   have H := H1
   clear H1
   replace H := Option.bind_eq_some_iff.mp H
   obtain ⟨⟨t603, t606, t609, t612⟩, A370, H⟩ := H
   replace H : ((laws_eqAlgebra.f kj13 t588 t591 t594 t597 t603 t606 t609 t612).bind fun t615 => (if t615 = true then (some true) else (some false))) = some r := H
   have A37 := AZ.mk A370
   clear A370
   replace H := Option.bind_eq_some_iff.mp H
   obtain ⟨t615, A380, H⟩ := H
   replace H : (if t615 = true then (some true) else (some false)) = some r := H
   have A38 := AZ.mk A380
   clear A380
   by_cases c39 : t615 = true
   ·subst c39
    have H1 : (some true) = some r := by rw [if_pos rfl] at H; exact H
    clear H
    have H := H1
    clear H1
    obtain rfl := Option.some.inj H
    try go_wp2
    have n0_ := AZ.mk (Kd.S_drew HO_601000.out)
    have n1_ := AZ.mk (Kd.S_drew HO_601001.out)
    have n2_ := AZ.mk (Kd.R_drew HO_601002.out)
    have n3_ := AZ.mk (Kd.R_drew HO_601003.out)
    have n4_ := AZ.mk (bd_ BK572.out)
    have n5_ := AZ.mk (bd_ BK600.out)
    have n6_ := AZ.mk (pD HB.out)
    clear HO_601000
    clear HO_601001
    clear HO_601002
    clear HO_601003
    clear BK572
    clear BK600
    clear HB
    have HO_601000 := n0_
    have HO_601001 := n1_
    have HO_601002 := n2_
    have HO_601003 := n3_
    have BK572 := n4_
    have BK600 := n5_
    have HB := n6_
    clear n0_ n1_ n2_ n3_ n4_ n5_ n6_
    refine start_ (n := 5) (S := fun w' => w'.cell? ⟨gb600, 0, none⟩ = some (.slice Ao28 t588.length co28) ∧ w'.cell? ⟨gb600, 1, none⟩ = some (.slice Ao31 t591.length co31) ∧ w'.cell? ⟨gb600, 2, none⟩ = some (.slice Ao32 t594.length co32) ∧ w'.cell? ⟨gb600, 3, none⟩ = some (.slice Ao33 t597.length co33) ∧ w'.cell? ⟨gb572, 0, none⟩ = some (.slice A0_0 l0_0.length c0_0) ∧ w'.cell? ⟨gb572, 1, none⟩ = some (.slice A0_1 l0_1.length c0_1) ∧ w'.cell? ⟨gb572, 2, none⟩ = some (.slice A0_2 l0_2.length c0_2) ∧ w'.cell? ⟨gb572, 3, none⟩ = some (.slice A0_3 l0_3.length c0_3)) (ds := []) #[false, false, false, false, false] (by kernel_rfl) rfl rfl ⟨(bc BK600.out 0).trans rfl, (bc BK600.out 1).trans rfl, (bc BK600.out 2).trans rfl, (bc BK600.out 3).trans rfl, (bc BK572.out 0).trans rfl, (bc BK572.out 1).trans rfl, (bc BK572.out 2).trans rfl, (bc BK572.out 3).trans rfl⟩ (fun hHeld => ?_)
    generalize wc.drew = w40 at HO_601000 HO_601001 HO_601002 HO_601003 BK572 BK600 HB hHeld ⊢
    refine take_ (i := 0) (N := some 42) (v := ?_) (a' := ?_) #[true, false, false, false, false] rfl rfl (by kernel_rfl) (fun _ _ _ h => h) (Or.inl ⟨by rfl, ?_⟩) hHeld ?_ ?_
    rotate_left
    ·rintro w' ⟨s0, s1, s2, s3, s4, s5, s6, s7⟩
     go_simp
     with_reducible rfl
    rotate_left
    ·simp only [Act.put, sA, sB, sC, i64_w, i32_w]
     rfl
    refine take_ (i := 1) (N := some 43) (v := ?_) (a' := ?_) #[true, true, false, false, false] rfl rfl (by kernel_rfl) (fun _ _ _ h => h) (Or.inl ⟨by rfl, ?_⟩) hHeld ?_ ?_
    rotate_left
    ·rintro w' ⟨s0, s1, s2, s3, s4, s5, s6, s7⟩
     go_simp
     with_reducible rfl
    rotate_left
    ·simp only [Act.put, sA, sB, sC, i64_w, i32_w]
     rfl
    refine one_ (i := 2) (N := some 44) #[true, true, true, false, false] rfl rfl (by kernel_rfl) (by decide) (fun K hK => ?_)
    refine goes_ Try.func9 (by kernel_rfl) rfl #[.agg #[.slice A0_0 l0_0.length c0_0, .slice A0_1 l0_1.length c0_1, .slice A0_2 l0_2.length c0_2, .slice A0_3 l0_3.length c0_3]] (by rfl) rfl rfl (by (try simp only [List.map_toArray, List.map_cons, List.map_nil]); first | done | rfl | (simp only [List.length_drop, List.length_take]; rfl)) ?_
    with_reducible refine (laws_toAlgebra.calls kj13 _ _ l0_0 _ _ l0_1 _ _ l0_2 _ _ l0_3 t603 t606 t609 t612 _ ?side1 ?side2 ?side3 ?side4 ?side5 ?side6 ?side7 ?side8 A37.out).mono ?_
    (case side1 => repeat (first | exact (Kd.C_below HR0_0.out HB.out) | (with_reducible refine Kd.C_alloc ?_ _) | (with_reducible refine Kd.C_drewN ?_ _) | (with_reducible refine Kd.C_drew ?_)))
    (case side2 => exact HC0_0.out)
    (case side3 => repeat (first | exact (Kd.C_below HR0_1.out HB.out) | (with_reducible refine Kd.C_alloc ?_ _) | (with_reducible refine Kd.C_drewN ?_ _) | (with_reducible refine Kd.C_drew ?_)))
    (case side4 => exact HC0_1.out)
    (case side5 => repeat (first | exact (Kd.C_below HR0_2.out HB.out) | (with_reducible refine Kd.C_alloc ?_ _) | (with_reducible refine Kd.C_drewN ?_ _) | (with_reducible refine Kd.C_drew ?_)))
    (case side6 => exact HC0_2.out)
    (case side7 => repeat (first | exact (Kd.C_below HR0_3.out HB.out) | (with_reducible refine Kd.C_alloc ?_ _) | (with_reducible refine Kd.C_drewN ?_ _) | (with_reducible refine Kd.C_drew ?_)))
    (case side8 => exact HC0_3.out)
    rintro e w41 ⟨v604, v607, v610, v613, rfl, ho0, ho1, ho2, ho3, hb⟩
    refine ⟨_, rfl, ?_⟩
    have n0_ := AZ.mk (Kd.S_mono (Kd.S_told (Kd.S_told (Kd.S_told (Kd.S_old (by (with_reducible repeat (first | apply Kd.S_alloc | apply Kd.S_drewN | apply Kd.S_drew)); exact HO_601000.out) hb) (Kd.S_base ho0)) (Kd.S_base ho1)) (Kd.R_base ho2)) (fun _ h_ => h_.1))
    have n1_ := AZ.mk (Kd.S_mono (Kd.S_told (Kd.S_told (Kd.S_told (Kd.S_old (by (with_reducible repeat (first | apply Kd.S_alloc | apply Kd.S_drewN | apply Kd.S_drew)); exact HO_601001.out) hb) (Kd.S_base ho0)) (Kd.S_base ho1)) (Kd.R_base ho2)) (fun _ h_ => h_.1))
    have n2_ := AZ.mk (Kd.R_elder' (by (with_reducible repeat (first | apply Kd.R_alloc | apply Kd.R_drewN | apply Kd.R_drew)); exact HO_601002.out) (Kd.R_base ho2) hb)
    have n3_ := AZ.mk (Kd.R_elder' (by (with_reducible repeat (first | apply Kd.R_alloc | apply Kd.R_drewN | apply Kd.R_drew)); exact HO_601003.out) (Kd.R_base ho3) hb)
    have n4_ := AZ.mk (Kd.S_lower (Kd.S_new' (Kd.S_new' (Kd.S_new' ho0 (Kd.S_lt (by (with_reducible repeat (first | apply Kd.S_alloc | apply Kd.S_drewN | apply Kd.S_drew)); exact HO_601000.out))) (Kd.S_lt (by (with_reducible repeat (first | apply Kd.S_alloc | apply Kd.S_drewN | apply Kd.S_drew)); exact HO_601001.out))) (Kd.R_lt (by (with_reducible repeat (first | apply Kd.R_alloc | apply Kd.R_drewN | apply Kd.R_drew)); exact HO_601002.out))) (pZ (by repeat (first | (with_reducible first | exact HB.out | apply pA | apply pN | apply pD | refine pS ?_ GE572.out | refine pS ?_ GE600.out) | exact HB.out))))
    have n5_ := AZ.mk (Kd.S_lower (Kd.S_new' (Kd.S_new' (Kd.S_new' ho1 (Kd.S_lt (by (with_reducible repeat (first | apply Kd.S_alloc | apply Kd.S_drewN | apply Kd.S_drew)); exact HO_601000.out))) (Kd.S_lt (by (with_reducible repeat (first | apply Kd.S_alloc | apply Kd.S_drewN | apply Kd.S_drew)); exact HO_601001.out))) (Kd.R_lt (by (with_reducible repeat (first | apply Kd.R_alloc | apply Kd.R_drewN | apply Kd.R_drew)); exact HO_601002.out))) (pZ (by repeat (first | (with_reducible first | exact HB.out | apply pA | apply pN | apply pD | refine pS ?_ GE572.out | refine pS ?_ GE600.out) | exact HB.out))))
    have n6_ := AZ.mk (Kd.R_lower (Kd.R_new' ho2 (Kd.R_lt (by (with_reducible repeat (first | apply Kd.R_alloc | apply Kd.R_drewN | apply Kd.R_drew)); exact HO_601002.out))) (pZ (by repeat (first | (with_reducible first | exact HB.out | apply pA | apply pN | apply pD | refine pS ?_ GE572.out | refine pS ?_ GE600.out) | exact HB.out))))
    have n7_ := AZ.mk (Kd.R_lower (Kd.R_new' ho3 (Kd.R_lt (by (with_reducible repeat (first | apply Kd.R_alloc | apply Kd.R_drewN | apply Kd.R_drew)); exact HO_601003.out))) (pZ (by repeat (first | (with_reducible first | exact HB.out | apply pA | apply pN | apply pD | refine pS ?_ GE572.out | refine pS ?_ GE600.out) | exact HB.out))))
    have n8_ := AZ.mk (bb_ (g := gb572) (o := .cells #[.slice A0_0 l0_0.length c0_0, .slice A0_1 l0_1.length c0_1, .slice A0_2 l0_2.length c0_2, .slice A0_3 l0_3.length c0_3] 26 (0, 0)) (by (with_reducible repeat (first | refine bn_ ?_ _ | refine bd_ ?_ | refine ba_ ?_ _)); exact BK572.out) hb)
    have n9_ := AZ.mk (bb_ (g := gb600) (o := .cells #[.slice Ao28 t588.length co28, .slice Ao31 t591.length co31, .slice Ao32 t594.length co32, .slice Ao33 t597.length co33] 29 (0, 0)) (by (with_reducible repeat (first | refine bn_ ?_ _ | refine bd_ ?_ | refine ba_ ?_ _)); exact BK600.out) hb)
    have n10_ := AZ.mk (pT (by repeat (first | (with_reducible first | exact HB.out | apply pA | apply pN | apply pD | refine pS ?_ GE572.out | refine pS ?_ GE600.out) | exact HB.out)) hb)
    clear HO_601000
    clear HO_601001
    clear HO_601002
    clear HO_601003
    clear BK572
    clear BK600
    clear HB
    have HO_601000 := n0_
    have HO_601001 := n1_
    have HO_601002 := n2_
    have HO_601003 := n3_
    have HO605 := n4_
    have HO608 := n5_
    have HO611 := n6_
    have HO614 := n7_
    have BK572 := n8_
    have BK600 := n9_
    have HB := n10_
    clear n0_ n1_ n2_ n3_ n4_ n5_ n6_ n7_ n8_ n9_ n10_
    (try clear hb)
    (try clear hb2)
    (try clear hk)
    (try clear hi)
    (try clear ho0)
    (try clear ho1)
    (try clear ho2)
    (try clear ho3)
    obtain ⟨Ao42, co42, eo42⟩ := Kd.S_slice HO605.out
    (first | subst eo42 | (injection eo42 with f1_ f2_ f3_; have f4_ := f1_.symm; have f5_ := f3_.symm; clear f1_ f2_ f3_; subst f4_; subst f5_))
    obtain ⟨Ao43, co43, eo43⟩ := Kd.S_slice HO608.out
    (first | subst eo43 | (injection eo43 with f1_ f2_ f3_; have f4_ := f1_.symm; have f5_ := f3_.symm; clear f1_ f2_ f3_; subst f4_; subst f5_))
    obtain ⟨Ao44, co44, eo44⟩ := Kd.R_slice HO611.out
    (first | subst eo44 | (injection eo44 with f1_ f2_ f3_; have f4_ := f1_.symm; have f5_ := f3_.symm; clear f1_ f2_ f3_; subst f4_; subst f5_))
    obtain ⟨Ao45, co45, eo45⟩ := Kd.R_slice HO614.out
    (first | subst eo45 | (injection eo45 with f1_ f2_ f3_; have f4_ := f1_.symm; have f5_ := f3_.symm; clear f1_ f2_ f3_; subst f4_; subst f5_))
    refine hK.out _ _ ⟨(bc BK600.out 0).trans rfl, (bc BK600.out 1).trans rfl, (bc BK600.out 2).trans rfl, (bc BK600.out 3).trans rfl, (bc BK572.out 0).trans rfl, (bc BK572.out 1).trans rfl, (bc BK572.out 2).trans rfl, (bc BK572.out 3).trans rfl⟩ (fun hHeld => ?_)
    clear hK K
    refine norm_ (a' := ?_) ?_ ?_
    rotate_left
    ·show Act.put _ (some 44) _ = _
     simp only [Act.put, sA, sB, sC, i64_w, i32_w]
     rfl
    refine one_ (i := 3) (N := some 45) #[true, true, true, true, false] rfl rfl (by kernel_rfl) (by decide) (fun K hK => ?_)
    refine goes_ Try.func11 (by kernel_rfl) rfl #[.agg #[.slice Ao28 t588.length co28, .slice Ao31 t591.length co31, .slice Ao32 t594.length co32, .slice Ao33 t597.length co33], .agg #[.slice Ao42 t603.length co42, .slice Ao43 t606.length co43, .slice Ao44 t609.length co44, .slice Ao45 t612.length co45]] (by rfl) rfl rfl (by (try simp only [List.map_toArray, List.map_cons, List.map_nil]); first | done | rfl | (simp only [List.length_drop, List.length_take]; rfl)) ?_
    with_reducible refine (laws_eqAlgebra.calls kj13 _ _ t588 _ _ t591 _ _ t594 _ _ t597 _ _ t603 _ _ t606 _ _ t609 _ _ t612 true _ ?side1 ?side2 ?side3 ?side4 ?side5 ?side6 ?side7 ?side8 ?side9 ?side10 ?side11 ?side12 ?side13 ?side14 ?side15 ?side16 A38.out).mono ?_
    (case side1 => repeat (first | exact (Kd.S_reads' HO_601000.out).2.2 | (with_reducible refine Kd.C_alloc ?_ _) | (with_reducible refine Kd.C_drewN ?_ _) | (with_reducible refine Kd.C_drew ?_)))
    (case side2 => exact (Kd.S_reads' HO_601000.out).2.1)
    (case side3 => repeat (first | exact (Kd.S_reads' HO_601001.out).2.2 | (with_reducible refine Kd.C_alloc ?_ _) | (with_reducible refine Kd.C_drewN ?_ _) | (with_reducible refine Kd.C_drew ?_)))
    (case side4 => exact (Kd.S_reads' HO_601001.out).2.1)
    (case side5 => repeat (first | exact (Kd.R_reads' HO_601002.out).2.2 | (with_reducible refine Kd.C_alloc ?_ _) | (with_reducible refine Kd.C_drewN ?_ _) | (with_reducible refine Kd.C_drew ?_)))
    (case side6 => exact (Kd.R_reads' HO_601002.out).2.1)
    (case side7 => repeat (first | exact (Kd.R_reads' HO_601003.out).2.2 | (with_reducible refine Kd.C_alloc ?_ _) | (with_reducible refine Kd.C_drewN ?_ _) | (with_reducible refine Kd.C_drew ?_)))
    (case side8 => exact (Kd.R_reads' HO_601003.out).2.1)
    (case side9 => repeat (first | exact (Kd.S_reads' HO605.out).2.2 | (with_reducible refine Kd.C_alloc ?_ _) | (with_reducible refine Kd.C_drewN ?_ _) | (with_reducible refine Kd.C_drew ?_)))
    (case side10 => exact (Kd.S_reads' HO605.out).2.1)
    (case side11 => repeat (first | exact (Kd.S_reads' HO608.out).2.2 | (with_reducible refine Kd.C_alloc ?_ _) | (with_reducible refine Kd.C_drewN ?_ _) | (with_reducible refine Kd.C_drew ?_)))
    (case side12 => exact (Kd.S_reads' HO608.out).2.1)
    (case side13 => repeat (first | exact (Kd.R_reads' HO611.out).2.2 | (with_reducible refine Kd.C_alloc ?_ _) | (with_reducible refine Kd.C_drewN ?_ _) | (with_reducible refine Kd.C_drew ?_)))
    (case side14 => exact (Kd.R_reads' HO611.out).2.1)
    (case side15 => repeat (first | exact (Kd.R_reads' HO614.out).2.2 | (with_reducible refine Kd.C_alloc ?_ _) | (with_reducible refine Kd.C_drewN ?_ _) | (with_reducible refine Kd.C_drew ?_)))
    (case side16 => exact (Kd.R_reads' HO614.out).2.1)
    rintro e w46 ⟨rfl, hb⟩
    refine ⟨_, rfl, ?_⟩
    have n0_ := AZ.mk (Kd.S_below (by (with_reducible repeat (first | apply Kd.S_alloc | apply Kd.S_drewN | apply Kd.S_drew)); exact HO_601000.out) hb)
    have n1_ := AZ.mk (Kd.S_below (by (with_reducible repeat (first | apply Kd.S_alloc | apply Kd.S_drewN | apply Kd.S_drew)); exact HO_601001.out) hb)
    have n2_ := AZ.mk (Kd.R_below (by (with_reducible repeat (first | apply Kd.R_alloc | apply Kd.R_drewN | apply Kd.R_drew)); exact HO_601002.out) hb)
    have n3_ := AZ.mk (Kd.R_below (by (with_reducible repeat (first | apply Kd.R_alloc | apply Kd.R_drewN | apply Kd.R_drew)); exact HO_601003.out) hb)
    have n4_ := AZ.mk (Kd.S_below (by (with_reducible repeat (first | apply Kd.S_alloc | apply Kd.S_drewN | apply Kd.S_drew)); exact HO605.out) hb)
    have n5_ := AZ.mk (Kd.S_below (by (with_reducible repeat (first | apply Kd.S_alloc | apply Kd.S_drewN | apply Kd.S_drew)); exact HO608.out) hb)
    have n6_ := AZ.mk (Kd.R_below (by (with_reducible repeat (first | apply Kd.R_alloc | apply Kd.R_drewN | apply Kd.R_drew)); exact HO611.out) hb)
    have n7_ := AZ.mk (Kd.R_below (by (with_reducible repeat (first | apply Kd.R_alloc | apply Kd.R_drewN | apply Kd.R_drew)); exact HO614.out) hb)
    have n8_ := AZ.mk (bb_ (g := gb572) (o := .cells #[.slice A0_0 l0_0.length c0_0, .slice A0_1 l0_1.length c0_1, .slice A0_2 l0_2.length c0_2, .slice A0_3 l0_3.length c0_3] 26 (0, 0)) (by (with_reducible repeat (first | refine bn_ ?_ _ | refine bd_ ?_ | refine ba_ ?_ _)); exact BK572.out) hb)
    have n9_ := AZ.mk (bb_ (g := gb600) (o := .cells #[.slice Ao28 t588.length co28, .slice Ao31 t591.length co31, .slice Ao32 t594.length co32, .slice Ao33 t597.length co33] 29 (0, 0)) (by (with_reducible repeat (first | refine bn_ ?_ _ | refine bd_ ?_ | refine ba_ ?_ _)); exact BK600.out) hb)
    have n10_ := AZ.mk (pT (by repeat (first | (with_reducible first | exact HB.out | apply pA | apply pN | apply pD | refine pS ?_ GE572.out | refine pS ?_ GE600.out) | exact HB.out)) hb)
    clear HO_601000
    clear HO_601001
    clear HO_601002
    clear HO_601003
    clear HO605
    clear HO608
    clear HO611
    clear HO614
    clear BK572
    clear BK600
    clear HB
    have HO_601000 := n0_
    have HO_601001 := n1_
    have HO_601002 := n2_
    have HO_601003 := n3_
    have HO605 := n4_
    have HO608 := n5_
    have HO611 := n6_
    have HO614 := n7_
    have BK572 := n8_
    have BK600 := n9_
    have HB := n10_
    clear n0_ n1_ n2_ n3_ n4_ n5_ n6_ n7_ n8_ n9_ n10_
    (try clear hb)
    (try clear hb2)
    (try clear hk)
    (try clear hi)
    refine hK.out _ _ ⟨(bc BK600.out 0).trans rfl, (bc BK600.out 1).trans rfl, (bc BK600.out 2).trans rfl, (bc BK600.out 3).trans rfl, (bc BK572.out 0).trans rfl, (bc BK572.out 1).trans rfl, (bc BK572.out 2).trans rfl, (bc BK572.out 3).trans rfl⟩ (fun hHeld => ?_)
    clear hK K
    refine norm_ (a' := ?_) ?_ ?_
    rotate_left
    ·show Act.put _ (some 45) _ = _
     simp only [Act.put, sA, sB, sC, i64_w, i32_w]
     rfl
    refine pure_ (i := 4) (N := some 46) (v := ?_) (a' := ?_) #[true, true, true, true, true] rfl rfl (by kernel_rfl) (fun _ _ _ h => h) (Or.inl ⟨by rfl, ?_⟩) ?_ ?_
    rotate_left
    ·intro w'
     go_simp
     with_reducible rfl
    rotate_left
    ·simp only [Act.put, sA, sB, sC, i64_w, i32_w]
     rfl
    refine done_ (by kernel_rfl) ?_
    try go_wp2
    go_ret
    exact ⟨by first | rfl | (simp [errW_none, errW_some] <;> rfl) | (simp [*, errW_none, errW_some] <;> rfl), by repeat (first | (with_reducible first | exact HB.out | apply pA | apply pN | apply pD | refine pS ?_ GE572.out | refine pS ?_ GE600.out) | exact HB.out)⟩
   replace c39 := Bool.eq_false_iff.mpr c39
   subst c39
   have H1 : (some false) = some r := by rw [if_neg (show ¬ (false = true) by decide)] at H; exact H
   clear H
   have H := H1
   clear H1
   obtain rfl := Option.some.inj H
   try go_wp2
   have n0_ := AZ.mk (Kd.S_drew HO_601000.out)
   have n1_ := AZ.mk (Kd.S_drew HO_601001.out)
   have n2_ := AZ.mk (Kd.R_drew HO_601002.out)
   have n3_ := AZ.mk (Kd.R_drew HO_601003.out)
   have n4_ := AZ.mk (bd_ BK572.out)
   have n5_ := AZ.mk (bd_ BK600.out)
   have n6_ := AZ.mk (pD HB.out)
   clear HO_601000
   clear HO_601001
   clear HO_601002
   clear HO_601003
   clear BK572
   clear BK600
   clear HB
   have HO_601000 := n0_
   have HO_601001 := n1_
   have HO_601002 := n2_
   have HO_601003 := n3_
   have BK572 := n4_
   have BK600 := n5_
   have HB := n6_
   clear n0_ n1_ n2_ n3_ n4_ n5_ n6_
   refine start_ (n := 5) (S := fun w' => w'.cell? ⟨gb600, 0, none⟩ = some (.slice Ao28 t588.length co28) ∧ w'.cell? ⟨gb600, 1, none⟩ = some (.slice Ao31 t591.length co31) ∧ w'.cell? ⟨gb600, 2, none⟩ = some (.slice Ao32 t594.length co32) ∧ w'.cell? ⟨gb600, 3, none⟩ = some (.slice Ao33 t597.length co33) ∧ w'.cell? ⟨gb572, 0, none⟩ = some (.slice A0_0 l0_0.length c0_0) ∧ w'.cell? ⟨gb572, 1, none⟩ = some (.slice A0_1 l0_1.length c0_1) ∧ w'.cell? ⟨gb572, 2, none⟩ = some (.slice A0_2 l0_2.length c0_2) ∧ w'.cell? ⟨gb572, 3, none⟩ = some (.slice A0_3 l0_3.length c0_3)) (ds := []) #[false, false, false, false, false] (by kernel_rfl) rfl rfl ⟨(bc BK600.out 0).trans rfl, (bc BK600.out 1).trans rfl, (bc BK600.out 2).trans rfl, (bc BK600.out 3).trans rfl, (bc BK572.out 0).trans rfl, (bc BK572.out 1).trans rfl, (bc BK572.out 2).trans rfl, (bc BK572.out 3).trans rfl⟩ (fun hHeld => ?_)
   generalize wc.drew = w47 at HO_601000 HO_601001 HO_601002 HO_601003 BK572 BK600 HB hHeld ⊢
   refine take_ (i := 0) (N := some 42) (v := ?_) (a' := ?_) #[true, false, false, false, false] rfl rfl (by kernel_rfl) (fun _ _ _ h => h) (Or.inl ⟨by rfl, ?_⟩) hHeld ?_ ?_
   rotate_left
   ·rintro w' ⟨s0, s1, s2, s3, s4, s5, s6, s7⟩
    go_simp
    with_reducible rfl
   rotate_left
   ·simp only [Act.put, sA, sB, sC, i64_w, i32_w]
    rfl
   refine take_ (i := 1) (N := some 43) (v := ?_) (a' := ?_) #[true, true, false, false, false] rfl rfl (by kernel_rfl) (fun _ _ _ h => h) (Or.inl ⟨by rfl, ?_⟩) hHeld ?_ ?_
   rotate_left
   ·rintro w' ⟨s0, s1, s2, s3, s4, s5, s6, s7⟩
    go_simp
    with_reducible rfl
   rotate_left
   ·simp only [Act.put, sA, sB, sC, i64_w, i32_w]
    rfl
   refine one_ (i := 2) (N := some 44) #[true, true, true, false, false] rfl rfl (by kernel_rfl) (by decide) (fun K hK => ?_)
   refine goes_ Try.func9 (by kernel_rfl) rfl #[.agg #[.slice A0_0 l0_0.length c0_0, .slice A0_1 l0_1.length c0_1, .slice A0_2 l0_2.length c0_2, .slice A0_3 l0_3.length c0_3]] (by rfl) rfl rfl (by (try simp only [List.map_toArray, List.map_cons, List.map_nil]); first | done | rfl | (simp only [List.length_drop, List.length_take]; rfl)) ?_
   with_reducible refine (laws_toAlgebra.calls kj13 _ _ l0_0 _ _ l0_1 _ _ l0_2 _ _ l0_3 t603 t606 t609 t612 _ ?side1 ?side2 ?side3 ?side4 ?side5 ?side6 ?side7 ?side8 A37.out).mono ?_
   (case side1 => repeat (first | exact (Kd.C_below HR0_0.out HB.out) | (with_reducible refine Kd.C_alloc ?_ _) | (with_reducible refine Kd.C_drewN ?_ _) | (with_reducible refine Kd.C_drew ?_)))
   (case side2 => exact HC0_0.out)
   (case side3 => repeat (first | exact (Kd.C_below HR0_1.out HB.out) | (with_reducible refine Kd.C_alloc ?_ _) | (with_reducible refine Kd.C_drewN ?_ _) | (with_reducible refine Kd.C_drew ?_)))
   (case side4 => exact HC0_1.out)
   (case side5 => repeat (first | exact (Kd.C_below HR0_2.out HB.out) | (with_reducible refine Kd.C_alloc ?_ _) | (with_reducible refine Kd.C_drewN ?_ _) | (with_reducible refine Kd.C_drew ?_)))
   (case side6 => exact HC0_2.out)
   (case side7 => repeat (first | exact (Kd.C_below HR0_3.out HB.out) | (with_reducible refine Kd.C_alloc ?_ _) | (with_reducible refine Kd.C_drewN ?_ _) | (with_reducible refine Kd.C_drew ?_)))
   (case side8 => exact HC0_3.out)
   rintro e w48 ⟨v604, v607, v610, v613, rfl, ho0, ho1, ho2, ho3, hb⟩
   refine ⟨_, rfl, ?_⟩
   have n0_ := AZ.mk (Kd.S_mono (Kd.S_told (Kd.S_told (Kd.S_told (Kd.S_old (by (with_reducible repeat (first | apply Kd.S_alloc | apply Kd.S_drewN | apply Kd.S_drew)); exact HO_601000.out) hb) (Kd.S_base ho0)) (Kd.S_base ho1)) (Kd.R_base ho2)) (fun _ h_ => h_.1))
   have n1_ := AZ.mk (Kd.S_mono (Kd.S_told (Kd.S_told (Kd.S_told (Kd.S_old (by (with_reducible repeat (first | apply Kd.S_alloc | apply Kd.S_drewN | apply Kd.S_drew)); exact HO_601001.out) hb) (Kd.S_base ho0)) (Kd.S_base ho1)) (Kd.R_base ho2)) (fun _ h_ => h_.1))
   have n2_ := AZ.mk (Kd.R_elder' (by (with_reducible repeat (first | apply Kd.R_alloc | apply Kd.R_drewN | apply Kd.R_drew)); exact HO_601002.out) (Kd.R_base ho2) hb)
   have n3_ := AZ.mk (Kd.R_elder' (by (with_reducible repeat (first | apply Kd.R_alloc | apply Kd.R_drewN | apply Kd.R_drew)); exact HO_601003.out) (Kd.R_base ho3) hb)
   have n4_ := AZ.mk (Kd.S_lower (Kd.S_new' (Kd.S_new' (Kd.S_new' ho0 (Kd.S_lt (by (with_reducible repeat (first | apply Kd.S_alloc | apply Kd.S_drewN | apply Kd.S_drew)); exact HO_601000.out))) (Kd.S_lt (by (with_reducible repeat (first | apply Kd.S_alloc | apply Kd.S_drewN | apply Kd.S_drew)); exact HO_601001.out))) (Kd.R_lt (by (with_reducible repeat (first | apply Kd.R_alloc | apply Kd.R_drewN | apply Kd.R_drew)); exact HO_601002.out))) (pZ (by repeat (first | (with_reducible first | exact HB.out | apply pA | apply pN | apply pD | refine pS ?_ GE572.out | refine pS ?_ GE600.out) | exact HB.out))))
   have n5_ := AZ.mk (Kd.S_lower (Kd.S_new' (Kd.S_new' (Kd.S_new' ho1 (Kd.S_lt (by (with_reducible repeat (first | apply Kd.S_alloc | apply Kd.S_drewN | apply Kd.S_drew)); exact HO_601000.out))) (Kd.S_lt (by (with_reducible repeat (first | apply Kd.S_alloc | apply Kd.S_drewN | apply Kd.S_drew)); exact HO_601001.out))) (Kd.R_lt (by (with_reducible repeat (first | apply Kd.R_alloc | apply Kd.R_drewN | apply Kd.R_drew)); exact HO_601002.out))) (pZ (by repeat (first | (with_reducible first | exact HB.out | apply pA | apply pN | apply pD | refine pS ?_ GE572.out | refine pS ?_ GE600.out) | exact HB.out))))
   have n6_ := AZ.mk (Kd.R_lower (Kd.R_new' ho2 (Kd.R_lt (by (with_reducible repeat (first | apply Kd.R_alloc | apply Kd.R_drewN | apply Kd.R_drew)); exact HO_601002.out))) (pZ (by repeat (first | (with_reducible first | exact HB.out | apply pA | apply pN | apply pD | refine pS ?_ GE572.out | refine pS ?_ GE600.out) | exact HB.out))))
   have n7_ := AZ.mk (Kd.R_lower (Kd.R_new' ho3 (Kd.R_lt (by (with_reducible repeat (first | apply Kd.R_alloc | apply Kd.R_drewN | apply Kd.R_drew)); exact HO_601003.out))) (pZ (by repeat (first | (with_reducible first | exact HB.out | apply pA | apply pN | apply pD | refine pS ?_ GE572.out | refine pS ?_ GE600.out) | exact HB.out))))
   have n8_ := AZ.mk (bb_ (g := gb572) (o := .cells #[.slice A0_0 l0_0.length c0_0, .slice A0_1 l0_1.length c0_1, .slice A0_2 l0_2.length c0_2, .slice A0_3 l0_3.length c0_3] 26 (0, 0)) (by (with_reducible repeat (first | refine bn_ ?_ _ | refine bd_ ?_ | refine ba_ ?_ _)); exact BK572.out) hb)
   have n9_ := AZ.mk (bb_ (g := gb600) (o := .cells #[.slice Ao28 t588.length co28, .slice Ao31 t591.length co31, .slice Ao32 t594.length co32, .slice Ao33 t597.length co33] 29 (0, 0)) (by (with_reducible repeat (first | refine bn_ ?_ _ | refine bd_ ?_ | refine ba_ ?_ _)); exact BK600.out) hb)
   have n10_ := AZ.mk (pT (by repeat (first | (with_reducible first | exact HB.out | apply pA | apply pN | apply pD | refine pS ?_ GE572.out | refine pS ?_ GE600.out) | exact HB.out)) hb)
   clear HO_601000
   clear HO_601001
   clear HO_601002
   clear HO_601003
   clear BK572
   clear BK600
   clear HB
   have HO_601000 := n0_
   have HO_601001 := n1_
   have HO_601002 := n2_
   have HO_601003 := n3_
   have HO605 := n4_
   have HO608 := n5_
   have HO611 := n6_
   have HO614 := n7_
   have BK572 := n8_
   have BK600 := n9_
   have HB := n10_
   clear n0_ n1_ n2_ n3_ n4_ n5_ n6_ n7_ n8_ n9_ n10_
   (try clear hb)
   (try clear hb2)
   (try clear hk)
   (try clear hi)
   (try clear ho0)
   (try clear ho1)
   (try clear ho2)
   (try clear ho3)
   obtain ⟨Ao49, co49, eo49⟩ := Kd.S_slice HO605.out
   (first | subst eo49 | (injection eo49 with f1_ f2_ f3_; have f4_ := f1_.symm; have f5_ := f3_.symm; clear f1_ f2_ f3_; subst f4_; subst f5_))
   obtain ⟨Ao50, co50, eo50⟩ := Kd.S_slice HO608.out
   (first | subst eo50 | (injection eo50 with f1_ f2_ f3_; have f4_ := f1_.symm; have f5_ := f3_.symm; clear f1_ f2_ f3_; subst f4_; subst f5_))
   obtain ⟨Ao51, co51, eo51⟩ := Kd.R_slice HO611.out
   (first | subst eo51 | (injection eo51 with f1_ f2_ f3_; have f4_ := f1_.symm; have f5_ := f3_.symm; clear f1_ f2_ f3_; subst f4_; subst f5_))
   obtain ⟨Ao52, co52, eo52⟩ := Kd.R_slice HO614.out
   (first | subst eo52 | (injection eo52 with f1_ f2_ f3_; have f4_ := f1_.symm; have f5_ := f3_.symm; clear f1_ f2_ f3_; subst f4_; subst f5_))
   refine hK.out _ _ ⟨(bc BK600.out 0).trans rfl, (bc BK600.out 1).trans rfl, (bc BK600.out 2).trans rfl, (bc BK600.out 3).trans rfl, (bc BK572.out 0).trans rfl, (bc BK572.out 1).trans rfl, (bc BK572.out 2).trans rfl, (bc BK572.out 3).trans rfl⟩ (fun hHeld => ?_)
   clear hK K
   refine norm_ (a' := ?_) ?_ ?_
   rotate_left
   ·show Act.put _ (some 44) _ = _
    simp only [Act.put, sA, sB, sC, i64_w, i32_w]
    rfl
   refine one_ (i := 3) (N := some 45) #[true, true, true, true, false] rfl rfl (by kernel_rfl) (by decide) (fun K hK => ?_)
   refine goes_ Try.func11 (by kernel_rfl) rfl #[.agg #[.slice Ao28 t588.length co28, .slice Ao31 t591.length co31, .slice Ao32 t594.length co32, .slice Ao33 t597.length co33], .agg #[.slice Ao49 t603.length co49, .slice Ao50 t606.length co50, .slice Ao51 t609.length co51, .slice Ao52 t612.length co52]] (by rfl) rfl rfl (by (try simp only [List.map_toArray, List.map_cons, List.map_nil]); first | done | rfl | (simp only [List.length_drop, List.length_take]; rfl)) ?_
   with_reducible refine (laws_eqAlgebra.calls kj13 _ _ t588 _ _ t591 _ _ t594 _ _ t597 _ _ t603 _ _ t606 _ _ t609 _ _ t612 false _ ?side1 ?side2 ?side3 ?side4 ?side5 ?side6 ?side7 ?side8 ?side9 ?side10 ?side11 ?side12 ?side13 ?side14 ?side15 ?side16 A38.out).mono ?_
   (case side1 => repeat (first | exact (Kd.S_reads' HO_601000.out).2.2 | (with_reducible refine Kd.C_alloc ?_ _) | (with_reducible refine Kd.C_drewN ?_ _) | (with_reducible refine Kd.C_drew ?_)))
   (case side2 => exact (Kd.S_reads' HO_601000.out).2.1)
   (case side3 => repeat (first | exact (Kd.S_reads' HO_601001.out).2.2 | (with_reducible refine Kd.C_alloc ?_ _) | (with_reducible refine Kd.C_drewN ?_ _) | (with_reducible refine Kd.C_drew ?_)))
   (case side4 => exact (Kd.S_reads' HO_601001.out).2.1)
   (case side5 => repeat (first | exact (Kd.R_reads' HO_601002.out).2.2 | (with_reducible refine Kd.C_alloc ?_ _) | (with_reducible refine Kd.C_drewN ?_ _) | (with_reducible refine Kd.C_drew ?_)))
   (case side6 => exact (Kd.R_reads' HO_601002.out).2.1)
   (case side7 => repeat (first | exact (Kd.R_reads' HO_601003.out).2.2 | (with_reducible refine Kd.C_alloc ?_ _) | (with_reducible refine Kd.C_drewN ?_ _) | (with_reducible refine Kd.C_drew ?_)))
   (case side8 => exact (Kd.R_reads' HO_601003.out).2.1)
   (case side9 => repeat (first | exact (Kd.S_reads' HO605.out).2.2 | (with_reducible refine Kd.C_alloc ?_ _) | (with_reducible refine Kd.C_drewN ?_ _) | (with_reducible refine Kd.C_drew ?_)))
   (case side10 => exact (Kd.S_reads' HO605.out).2.1)
   (case side11 => repeat (first | exact (Kd.S_reads' HO608.out).2.2 | (with_reducible refine Kd.C_alloc ?_ _) | (with_reducible refine Kd.C_drewN ?_ _) | (with_reducible refine Kd.C_drew ?_)))
   (case side12 => exact (Kd.S_reads' HO608.out).2.1)
   (case side13 => repeat (first | exact (Kd.R_reads' HO611.out).2.2 | (with_reducible refine Kd.C_alloc ?_ _) | (with_reducible refine Kd.C_drewN ?_ _) | (with_reducible refine Kd.C_drew ?_)))
   (case side14 => exact (Kd.R_reads' HO611.out).2.1)
   (case side15 => repeat (first | exact (Kd.R_reads' HO614.out).2.2 | (with_reducible refine Kd.C_alloc ?_ _) | (with_reducible refine Kd.C_drewN ?_ _) | (with_reducible refine Kd.C_drew ?_)))
   (case side16 => exact (Kd.R_reads' HO614.out).2.1)
   rintro e w53 ⟨rfl, hb⟩
   refine ⟨_, rfl, ?_⟩
   have n0_ := AZ.mk (Kd.S_below (by (with_reducible repeat (first | apply Kd.S_alloc | apply Kd.S_drewN | apply Kd.S_drew)); exact HO_601000.out) hb)
   have n1_ := AZ.mk (Kd.S_below (by (with_reducible repeat (first | apply Kd.S_alloc | apply Kd.S_drewN | apply Kd.S_drew)); exact HO_601001.out) hb)
   have n2_ := AZ.mk (Kd.R_below (by (with_reducible repeat (first | apply Kd.R_alloc | apply Kd.R_drewN | apply Kd.R_drew)); exact HO_601002.out) hb)
   have n3_ := AZ.mk (Kd.R_below (by (with_reducible repeat (first | apply Kd.R_alloc | apply Kd.R_drewN | apply Kd.R_drew)); exact HO_601003.out) hb)
   have n4_ := AZ.mk (Kd.S_below (by (with_reducible repeat (first | apply Kd.S_alloc | apply Kd.S_drewN | apply Kd.S_drew)); exact HO605.out) hb)
   have n5_ := AZ.mk (Kd.S_below (by (with_reducible repeat (first | apply Kd.S_alloc | apply Kd.S_drewN | apply Kd.S_drew)); exact HO608.out) hb)
   have n6_ := AZ.mk (Kd.R_below (by (with_reducible repeat (first | apply Kd.R_alloc | apply Kd.R_drewN | apply Kd.R_drew)); exact HO611.out) hb)
   have n7_ := AZ.mk (Kd.R_below (by (with_reducible repeat (first | apply Kd.R_alloc | apply Kd.R_drewN | apply Kd.R_drew)); exact HO614.out) hb)
   have n8_ := AZ.mk (bb_ (g := gb572) (o := .cells #[.slice A0_0 l0_0.length c0_0, .slice A0_1 l0_1.length c0_1, .slice A0_2 l0_2.length c0_2, .slice A0_3 l0_3.length c0_3] 26 (0, 0)) (by (with_reducible repeat (first | refine bn_ ?_ _ | refine bd_ ?_ | refine ba_ ?_ _)); exact BK572.out) hb)
   have n9_ := AZ.mk (bb_ (g := gb600) (o := .cells #[.slice Ao28 t588.length co28, .slice Ao31 t591.length co31, .slice Ao32 t594.length co32, .slice Ao33 t597.length co33] 29 (0, 0)) (by (with_reducible repeat (first | refine bn_ ?_ _ | refine bd_ ?_ | refine ba_ ?_ _)); exact BK600.out) hb)
   have n10_ := AZ.mk (pT (by repeat (first | (with_reducible first | exact HB.out | apply pA | apply pN | apply pD | refine pS ?_ GE572.out | refine pS ?_ GE600.out) | exact HB.out)) hb)
   clear HO_601000
   clear HO_601001
   clear HO_601002
   clear HO_601003
   clear HO605
   clear HO608
   clear HO611
   clear HO614
   clear BK572
   clear BK600
   clear HB
   have HO_601000 := n0_
   have HO_601001 := n1_
   have HO_601002 := n2_
   have HO_601003 := n3_
   have HO605 := n4_
   have HO608 := n5_
   have HO611 := n6_
   have HO614 := n7_
   have BK572 := n8_
   have BK600 := n9_
   have HB := n10_
   clear n0_ n1_ n2_ n3_ n4_ n5_ n6_ n7_ n8_ n9_ n10_
   (try clear hb)
   (try clear hb2)
   (try clear hk)
   (try clear hi)
   refine hK.out _ _ ⟨(bc BK600.out 0).trans rfl, (bc BK600.out 1).trans rfl, (bc BK600.out 2).trans rfl, (bc BK600.out 3).trans rfl, (bc BK572.out 0).trans rfl, (bc BK572.out 1).trans rfl, (bc BK572.out 2).trans rfl, (bc BK572.out 3).trans rfl⟩ (fun hHeld => ?_)
   clear hK K
   refine norm_ (a' := ?_) ?_ ?_
   rotate_left
   ·show Act.put _ (some 45) _ = _
    simp only [Act.put, sA, sB, sC, i64_w, i32_w]
    rfl
   refine pure_ (i := 4) (N := some 46) (v := ?_) (a' := ?_) #[true, true, true, true, true] rfl rfl (by kernel_rfl) (fun _ _ _ h => h) (Or.inl ⟨by rfl, ?_⟩) ?_ ?_
   rotate_left
   ·intro w'
    go_simp
    with_reducible rfl
   rotate_left
   ·simp only [Act.put, sA, sB, sC, i64_w, i32_w]
    rfl
   refine done_ (by kernel_rfl) ?_
   try go_wp2
   go_ret
   exact ⟨by first | rfl | (simp [errW_none, errW_some] <;> rfl) | (simp [*, errW_none, errW_some] <;> rfl), by repeat (first | (with_reducible first | exact HB.out | apply pA | apply pN | apply pD | refine pS ?_ GE572.out | refine pS ?_ GE600.out) | exact HB.out)⟩
def laws_FnExactAlgebraTakes.Pure : Prop := ∀ (l0_0 : List (List Int)) (l0_1 : List (List Int)) (l0_2 : List Int) (l0_3 : List Bool) (a1 : ByteArray), (l0_0.length ≤ maxLen ∧ ∀ x0 ∈ l0_0, (x0.length ≤ maxLen ∧ ∀ x1 ∈ x0, (Lit.int .i64 x1).wf = true)) → (l0_1.length ≤ maxLen ∧ ∀ x0 ∈ l0_1, (x0.length ≤ maxLen ∧ ∀ x1 ∈ x0, (Lit.int .i64 x1).wf = true)) → (l0_2.length ≤ maxLen ∧ ∀ x0 ∈ l0_2, (Lit.int .i64 x0).wf = true) → (l0_3.length ≤ maxLen ∧ ∀ x0 ∈ l0_3, True) → a1.size ≤ maxLen → ∃ k, laws_FnExactAlgebraTakes.f k l0_0 l0_1 l0_2 l0_3 a1 = some true
end Go.Proofs.Ytgfilbgjnloopaa.P
