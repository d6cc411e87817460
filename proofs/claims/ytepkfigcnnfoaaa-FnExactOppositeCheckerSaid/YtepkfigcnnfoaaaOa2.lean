/- Texts that this law leans on, several in one; written by programs of these sessions (print, wip/deep, gather.py). -/
import Derived.Test.YtepkfigcnnfoaaaOa1
namespace Go.Proofs.Ytepkfigcnnfoaaa.P
open Go.RowKit Go.Proofs.YtepkfigcnnfoaaaW.PrintWords Go.Proofs.YtepkfigcnnfoaaaW.PrintLast Go.Proofs.YtepkfigcnnfoaaaW.PrintMore
attribute [local go_sem] max2_int min2_int max_two min_two max_three min_three max_four min_four
set_option linter.unusedVariables false
set_option linter.unusedSimpArgs false
def laws_eqPushSS.l0 : Nat → List (List (S47)) → List (List (S47)) → Int → Option (Bool)
 | 0, _, _, _ => none
 | k + 1, x0, x1, x5 => if x5 < (x0.length : Int) then (if 0 ≤ x5 then (if x5 < (x1.length : Int) then ((laws_eqPushS.f k (rd_L3 x0 x5) (rd_L3 x1 x5)).bind fun t154 => (if t154 = true then (laws_eqPushSS.l0 k x0 x1 (wrap64 (x5 + 1))) else (some false))) else (none)) else (none)) else (some true)
def laws_eqPushSS.f (k : Nat) (l0 : List (List (S47))) (l1 : List (List (S47))) : Option (Bool) := if (l0.length : Int) = (l1.length : Int) then (laws_eqPushSS.l0 k l0 l1 0) else (some false)
def laws_eqPushSS.T6 : Bool × List (List Nat × List Nat) := (true, [([], []), ([], []), ([0, 1], [0, 1]), ([2], [2]), ([], []), ([], []), ([4, 5], [4, 5]), ([6], [6]), ([3, 7], [3, 7]), ([8], [8])])
def laws_eqPushSS.B6 : List Nat := [0, 0, 3, 7, 0, 0, 48, 112, 255, 511]
theorem laws_eqPushSS.tab6 : rtab .any (opsOf Try.f35 6) = laws_eqPushSS.T6 := by kernel_rfl
theorem laws_eqPushSS.bits6 : waitsOk laws_eqPushSS.T6.2 laws_eqPushSS.B6 = true := by kernel_rfl
def laws_eqPushSS.cz0 : List Nat := [0, 1, 2, 4, 5, 6, 403, 407]
set_option maxHeartbeats 8000000 in
set_option maxRecDepth 100000 in
theorem laws_eqPushSS.calls (k : Nat) (A0 : Option Addr) (c0 : Nat) (l0 : List (List (S47))) (A1 : Option Addr) (c1 : Nat) (l1 : List (List (S47))) (r : Bool) (w : World) (hr0 : Kd.C (Kd.slice 47 k47) w A0 l0.length l0) (hc0 : l0.length ≤ c0) (hr1 : Kd.C (Kd.slice 47 k47) w A1 l1.length l1) (hc1 : l1.length ≤ c1) (h : laws_eqPushSS.f k l0 l1 = some r) :
  Calls Try.prog 35 #[.slice A0 l0.length c0, .slice A1 l1.length c1] w fun e w' => e = .returned (.bool r) ∧ Below w.heap.size w w' := by
 have HR0 := AZ.mk hr0
 have HC0 := AZ.mk hc0
 clear hr0 hc0
 have HR1 := AZ.mk hr1
 have HC1 := AZ.mk hc1
 clear hr1 hc1
 have HB := AZ.mk (Below.refl w.heap.size w)
 have H : (if (l0.length : Int) = (l1.length : Int) then (laws_eqPushSS.l0 k l0 l1 0) else (some false)) = some r := h
 clear h
 by_cases c3 : (l0.length : Int) = (l1.length : Int)
 rotate_left
 ·rw [if_neg c3] at H
  have c3b0 : ((l0.length : Int) == (l1.length : Int)) = false := beq_eq_false_iff_ne.mpr c3
  have c3b1 : ((l0.length : Int) != (l1.length : Int)) = true := bne_iff_ne.mpr c3
  have c3b2 : (l0.length == l1.length) = false := by first | simpa using c3 | (simp at c3 ⊢; omega)
  obtain rfl := Option.some.inj H
  go_enter Try.func35, Try.ntmps35
  go_wp2
  go_ret
  exact ⟨by first | rfl | (simp [errW_none, errW_some] <;> rfl) | (simp [*, errW_none, errW_some] <;> rfl), by repeat (first | (with_reducible first | exact HB.out | apply pA | apply pN | apply pD) | exact HB.out)⟩
 rw [if_pos c3] at H
 have c3b0 : ((l0.length : Int) == (l1.length : Int)) = true := beq_iff_eq.mpr c3
 have c3b1 : ((l0.length : Int) != (l1.length : Int)) = false := bne_eq_false_iff_eq.mpr c3
 have c3b2 : (l0.length == l1.length) = true := by first | simpa using c3 | (simp at c3 ⊢; omega)
 clear c3
 have H' := AZ.mk H
 clear H
 go_enter Try.func35, Try.ntmps35
 go_wp2
 go_loopg [5] k (fun kq v5 w' => ∃ (x5_1 : Int), v5 = .int .i64 x5_1 ∧ AZ (laws_eqPushSS.l0 kq l0 l1 x5_1 = some r) ∧ AZ (kq ≤ k) ∧ AZ (Below w.heap.size w w'))
 case atStart => exact ⟨(0), (by first | rfl | (simp; done) | (simp [*]; done)), H', ⟨Nat.le_refl _⟩, ⟨by repeat (first | (with_reducible first | exact HB.out | apply pA | apply pN | apply pD) | exact HB.out)⟩⟩
 case round =>
  clear H'
  try clear c1
  try clear p2
  try clear c3
  try clear c3b0
  try clear c3b1
  try clear c3b2
  obtain ⟨x5_1, rfl, HA, HK1, HB⟩ := hrel
  cases gk with
  | zero => exact absurd HA.out (by simp [laws_eqPushSS.l0])
  | succ k1 =>
   have H := HA.out
   clear HA
   simp only [laws_eqPushSS.l0] at H
   by_cases c4 : x5_1 < (l0.length : Int)
   rotate_left
   ·rw [if_neg c4] at H
    have c4b0 : decide (x5_1 < (l0.length : Int)) = false := decide_eq_false c4
    clear c4
    obtain rfl := Option.some.inj H
    go_wp2
    go_ret
    exact ⟨by first | rfl | (simp [errW_none, errW_some] <;> rfl) | (simp [*, errW_none, errW_some] <;> rfl), by repeat (first | (with_reducible first | exact HB.out | apply pA | apply pN | apply pD) | exact HB.out)⟩
   rw [if_pos c4] at H
   have c4b0 : decide (x5_1 < (l0.length : Int)) = true := decide_eq_true c4
   clear c4
   by_cases c5 : 0 ≤ x5_1
   rotate_left
   ·rw [if_neg c5] at H
    exact absurd H (by simp)
   rw [if_pos c5] at H
   have c5b0 : decide (0 ≤ x5_1) = true := decide_eq_true c5
   clear c5
   by_cases c6 : x5_1 < (l1.length : Int)
   rotate_left
   ·rw [if_neg c6] at H
    exact absurd H (by simp)
   rw [if_pos c6] at H
   have c6b0 : decide (x5_1 < (l1.length : Int)) = true := decide_eq_true c6
   clear c6
   replace H := Option.bind_eq_some_iff.mp H
   obtain ⟨t154, A70, H⟩ := H
   replace H : (if t154 = true then (laws_eqPushSS.l0 k1 l0 l1 (wrap64 (x5_1 + 1))) else (some false)) = some r := H
   have A7 := AZ.mk A70
   clear A70
   by_cases c8 : t154 = true
   rotate_left
   ·replace c8 := Bool.eq_false_iff.mpr c8
    subst c8
    have H1 : (some false) = some r := by rw [if_neg (show ¬ (false = true) by decide)] at H; exact H
    clear H
    have H := H1
    clear H1
    obtain rfl := Option.some.inj H
    try go_wp2
    have n0_ := AZ.mk (pD HB.out)
    clear HB
    have HB := n0_
    clear n0_
    have p152 : 0 ≤ (x5_1 : Int) := oT (by first | (with_reducible assumption) | assumption)
    have q152 : x5_1 < (l0.length : Int) := oT (by first | (with_reducible assumption) | assumption)
    obtain ⟨ad152, A152_0, c152_0, e152, hx152_0, hl152_0, hi152_0⟩ := at_L3 HR0.out x5_1 p152 q152
    have hw152_0 := hx152_0
    cases e152
    replace hx152_0 := (HB.out.cell (World.block_lt_of_cell? w _ hx152_0)).trans hx152_0
    have HR152_0 := AZ.mk hi152_0
    have HC152_0 := AZ.mk hl152_0
    clear hi152_0 hl152_0
    replace p152 := eq_true p152
    replace q152 := eq_true q152
    have p153 : 0 ≤ (x5_1 : Int) := oT (by first | (with_reducible assumption) | assumption)
    have q153 : x5_1 < (l1.length : Int) := oT (by first | (with_reducible assumption) | assumption)
    obtain ⟨ad153, A153_0, c153_0, e153, hx153_0, hl153_0, hi153_0⟩ := at_L3 HR1.out x5_1 p153 q153
    have hw153_0 := hx153_0
    cases e153
    replace hx153_0 := (HB.out.cell (World.block_lt_of_cell? w _ hx153_0)).trans hx153_0
    have HR153_0 := AZ.mk hi153_0
    have HC153_0 := AZ.mk hl153_0
    clear hi153_0 hl153_0
    replace p153 := eq_true p153
    replace q153 := eq_true q153
    refine start_ (n := 10) (S := fun w' => w'.cell? (ad152.add (x5_1).toNat) = some (.slice A152_0 (rd_L3 l0 x5_1).length c152_0) ∧ w'.cell? (ad153.add (x5_1).toNat) = some (.slice A153_0 (rd_L3 l1 x5_1).length c153_0)) (ds := []) (bz 10 0) (by kernel_rfl) rfl rfl ⟨((HB.out.cell (World.block_lt_of_cell? w _ hw152_0)).trans hw152_0), ((HB.out.cell (World.block_lt_of_cell? w _ hw153_0)).trans hw153_0)⟩ (fun hHeld => ?_); refine with_tabW laws_eqPushSS.tab6 laws_eqPushSS.bits6 (fun HT_ HW_ => ?_)
    generalize wr.drew = w11 at HB HR152_0 HR153_0 hx152_0 hx153_0 hHeld ⊢
    iterate 8 (first | (refine pz_ HT_ laws_eqPushSS.cz0 rfl rfl rfl (v := ?_) (a' := ?_) (by kernel_rfl) (fun _ _ _ h => h) (Or.inl ⟨by rfl, ?_⟩) ?_ ?_; rotate_left; (intro w'; go_simp; with_reducible rfl); rotate_left; (simp only [Act.put, sA, sB, sC, i64_w, i32_w]; rfl)) | (refine tz_ HT_ HW_ laws_eqPushSS.cz0 rfl rfl rfl (v := ?_) (a' := ?_) (by kernel_rfl) (fun _ _ _ h => h) (Or.inl ⟨by rfl, ?_⟩) hHeld ?_ ?_; rotate_left; (rintro w' ⟨s0, s1⟩; go_simp; with_reducible rfl); rotate_left; (simp only [Act.put, sA, sB, sC, i64_w, i32_w]; rfl)))
    refine one_ (i := 8) (N := some 25) (bz 10 511) rfl rfl (one_of HT_.out (by kernel_rfl)) (by decide) (fun K hK => ?_)
    refine goes_ Try.func84 (by kernel_rfl) rfl #[.slice A152_0 (rd_L3 l0 x5_1).length c152_0, .slice A153_0 (rd_L3 l1 x5_1).length c153_0] (by rfl) rfl rfl (by (try simp only [List.map_toArray, List.map_cons, List.map_nil]); first | done | rfl | (simp only [List.length_drop, List.length_take]; rfl)) ?_
    with_reducible refine (laws_eqPushS.calls k1 _ _ (rd_L3 l0 x5_1) _ _ (rd_L3 l1 x5_1) false _ ?side1 ?side2 ?side3 ?side4 A7.out).mono ?_
    (case side1 => repeat (first | exact (Kd.C_below HR152_0.out HB.out) | (with_reducible refine Kd.C_alloc ?_ _) | (with_reducible refine Kd.C_drewN ?_ _) | (with_reducible refine Kd.C_drew ?_)))
    (case side2 => exact HC152_0.out)
    (case side3 => repeat (first | exact (Kd.C_below HR153_0.out HB.out) | (with_reducible refine Kd.C_alloc ?_ _) | (with_reducible refine Kd.C_drewN ?_ _) | (with_reducible refine Kd.C_drew ?_)))
    (case side4 => exact HC153_0.out)
    rintro e w12 ⟨rfl, hb⟩
    refine ⟨_, rfl, ?_⟩
    have n0_ := AZ.mk (pT (by repeat (first | (with_reducible first | exact HB.out | apply pA | apply pN | apply pD) | exact HB.out)) hb)
    clear HB
    have HB := n0_
    clear n0_
    (try clear hb)
    (try clear hb2)
    (try clear hk)
    (try clear hi)
    refine hK.out _ _ ⟨((HB.out.cell (World.block_lt_of_cell? w _ hw152_0)).trans hw152_0), ((HB.out.cell (World.block_lt_of_cell? w _ hw153_0)).trans hw153_0)⟩ (fun hHeld => ?_)
    clear hK K
    refine norm_ (a' := ?_) ?_ ?_
    rotate_left
    ·show Act.put _ (some 25) _ = _
     simp only [Act.put, sA, sB, sC, i64_w, i32_w]
     rfl
    refine pure_ (i := 9) (N := some 26) (v := ?_) (a' := ?_) (bz 10 1023) rfl rfl (any_of HT_.out (by kernel_rfl)) (fun _ _ _ h => h) (Or.inl ⟨by rfl, ?_⟩) ?_ ?_
    rotate_left
    ·intro w'
     go_simp
     with_reducible rfl
    rotate_left
    ·simp only [Act.put, sA, sB, sC, i64_w, i32_w]
     rfl
    refine done_ (done_of HT_.out (by kernel_rfl)) ?_
    try go_wp2
    go_ret
    exact ⟨by first | rfl | (simp [errW_none, errW_some] <;> rfl) | (simp [*, errW_none, errW_some] <;> rfl), by repeat (first | (with_reducible first | exact HB.out | apply pA | apply pN | apply pD) | exact HB.out)⟩
   subst c8
   have H1 : (laws_eqPushSS.l0 k1 l0 l1 (wrap64 (x5_1 + 1))) = some r := by rw [if_pos rfl] at H; exact H
   clear H
   have H := H1
   clear H1
   have H' := AZ.mk H
   clear H
   try go_wp2
   have n0_ := AZ.mk (pD HB.out)
   clear HB
   have HB := n0_
   clear n0_
   have p152 : 0 ≤ (x5_1 : Int) := oT (by first | (with_reducible assumption) | assumption)
   have q152 : x5_1 < (l0.length : Int) := oT (by first | (with_reducible assumption) | assumption)
   obtain ⟨ad152, A152_0, c152_0, e152, hx152_0, hl152_0, hi152_0⟩ := at_L3 HR0.out x5_1 p152 q152
   have hw152_0 := hx152_0
   cases e152
   replace hx152_0 := (HB.out.cell (World.block_lt_of_cell? w _ hx152_0)).trans hx152_0
   have HR152_0 := AZ.mk hi152_0
   have HC152_0 := AZ.mk hl152_0
   clear hi152_0 hl152_0
   replace p152 := eq_true p152
   replace q152 := eq_true q152
   have p153 : 0 ≤ (x5_1 : Int) := oT (by first | (with_reducible assumption) | assumption)
   have q153 : x5_1 < (l1.length : Int) := oT (by first | (with_reducible assumption) | assumption)
   obtain ⟨ad153, A153_0, c153_0, e153, hx153_0, hl153_0, hi153_0⟩ := at_L3 HR1.out x5_1 p153 q153
   have hw153_0 := hx153_0
   cases e153
   replace hx153_0 := (HB.out.cell (World.block_lt_of_cell? w _ hx153_0)).trans hx153_0
   have HR153_0 := AZ.mk hi153_0
   have HC153_0 := AZ.mk hl153_0
   clear hi153_0 hl153_0
   replace p153 := eq_true p153
   replace q153 := eq_true q153
   refine start_ (n := 10) (S := fun w' => w'.cell? (ad152.add (x5_1).toNat) = some (.slice A152_0 (rd_L3 l0 x5_1).length c152_0) ∧ w'.cell? (ad153.add (x5_1).toNat) = some (.slice A153_0 (rd_L3 l1 x5_1).length c153_0)) (ds := []) (bz 10 0) (by kernel_rfl) rfl rfl ⟨((HB.out.cell (World.block_lt_of_cell? w _ hw152_0)).trans hw152_0), ((HB.out.cell (World.block_lt_of_cell? w _ hw153_0)).trans hw153_0)⟩ (fun hHeld => ?_); refine with_tabW laws_eqPushSS.tab6 laws_eqPushSS.bits6 (fun HT_ HW_ => ?_)
   generalize wr.drew = w9 at HB HR152_0 HR153_0 hx152_0 hx153_0 hHeld ⊢
   iterate 8 (first | (refine pz_ HT_ laws_eqPushSS.cz0 rfl rfl rfl (v := ?_) (a' := ?_) (by kernel_rfl) (fun _ _ _ h => h) (Or.inl ⟨by rfl, ?_⟩) ?_ ?_; rotate_left; (intro w'; go_simp; with_reducible rfl); rotate_left; (simp only [Act.put, sA, sB, sC, i64_w, i32_w]; rfl)) | (refine tz_ HT_ HW_ laws_eqPushSS.cz0 rfl rfl rfl (v := ?_) (a' := ?_) (by kernel_rfl) (fun _ _ _ h => h) (Or.inl ⟨by rfl, ?_⟩) hHeld ?_ ?_; rotate_left; (rintro w' ⟨s0, s1⟩; go_simp; with_reducible rfl); rotate_left; (simp only [Act.put, sA, sB, sC, i64_w, i32_w]; rfl)))
   refine one_ (i := 8) (N := some 25) (bz 10 511) rfl rfl (one_of HT_.out (by kernel_rfl)) (by decide) (fun K hK => ?_)
   refine goes_ Try.func84 (by kernel_rfl) rfl #[.slice A152_0 (rd_L3 l0 x5_1).length c152_0, .slice A153_0 (rd_L3 l1 x5_1).length c153_0] (by rfl) rfl rfl (by (try simp only [List.map_toArray, List.map_cons, List.map_nil]); first | done | rfl | (simp only [List.length_drop, List.length_take]; rfl)) ?_
   with_reducible refine (laws_eqPushS.calls k1 _ _ (rd_L3 l0 x5_1) _ _ (rd_L3 l1 x5_1) true _ ?side1 ?side2 ?side3 ?side4 A7.out).mono ?_
   (case side1 => repeat (first | exact (Kd.C_below HR152_0.out HB.out) | (with_reducible refine Kd.C_alloc ?_ _) | (with_reducible refine Kd.C_drewN ?_ _) | (with_reducible refine Kd.C_drew ?_)))
   (case side2 => exact HC152_0.out)
   (case side3 => repeat (first | exact (Kd.C_below HR153_0.out HB.out) | (with_reducible refine Kd.C_alloc ?_ _) | (with_reducible refine Kd.C_drewN ?_ _) | (with_reducible refine Kd.C_drew ?_)))
   (case side4 => exact HC153_0.out)
   rintro e w10 ⟨rfl, hb⟩
   refine ⟨_, rfl, ?_⟩
   have n0_ := AZ.mk (pT (by repeat (first | (with_reducible first | exact HB.out | apply pA | apply pN | apply pD) | exact HB.out)) hb)
   clear HB
   have HB := n0_
   clear n0_
   (try clear hb)
   (try clear hb2)
   (try clear hk)
   (try clear hi)
   refine hK.out _ _ ⟨((HB.out.cell (World.block_lt_of_cell? w _ hw152_0)).trans hw152_0), ((HB.out.cell (World.block_lt_of_cell? w _ hw153_0)).trans hw153_0)⟩ (fun hHeld => ?_)
   clear hK K
   refine norm_ (a' := ?_) ?_ ?_
   rotate_left
   ·show Act.put _ (some 25) _ = _
    simp only [Act.put, sA, sB, sC, i64_w, i32_w]
    rfl
   refine pure_ (i := 9) (N := some 26) (v := ?_) (a' := ?_) (bz 10 1023) rfl rfl (any_of HT_.out (by kernel_rfl)) (fun _ _ _ h => h) (Or.inl ⟨by rfl, ?_⟩) ?_ ?_
   rotate_left
   ·intro w'
    go_simp
    with_reducible rfl
   rotate_left
   ·simp only [Act.put, sA, sB, sC, i64_w, i32_w]
    rfl
   refine done_ (done_of HT_.out (by kernel_rfl)) ?_
   try go_wp2
   go_roundg k1
   case measure => have := HK1.out; omega
   case rel => exact ⟨(wrap64 (x5_1 + 1)), (by first | rfl | (simp; done) | (simp [*]; done)), H', ⟨by have := HK1.out; omega⟩, ⟨by repeat (first | (with_reducible first | exact HB.out | apply pA | apply pN | apply pD) | exact HB.out)⟩⟩
end Go.Proofs.Ytepkfigcnnfoaaa.P
namespace Go.Proofs.Ytepkfigcnnfoaaa.P
open Go.RowKit Go.Proofs.YtepkfigcnnfoaaaW.PrintWords Go.Proofs.YtepkfigcnnfoaaaW.PrintLast Go.Proofs.YtepkfigcnnfoaaaW.PrintMore
attribute [local go_sem] max2_int min2_int max_two min_two max_three min_three max_four min_four
set_option linter.unusedVariables false
set_option linter.unusedSimpArgs false
def laws_eqInt64S.l0 : Nat → List Int → List Int → Int → Option (Bool)
 | 0, _, _, _ => none
 | k + 1, x0, x1, x5 => if x5 < (x0.length : Int) then (if 0 ≤ x5 then (if x5 < (x1.length : Int) then (if (rd x0 x5) = (rd x1 x5) then (laws_eqInt64S.l0 k x0 x1 (wrap64 (x5 + 1))) else (some false)) else (none)) else (none)) else (some true)
def laws_eqInt64S.f (k : Nat) (l0 : List Int) (l1 : List Int) : Option (Bool) := if (l0.length : Int) = (l1.length : Int) then (laws_eqInt64S.l0 k l0 l1 0) else (some false)
set_option maxHeartbeats 8000000 in
set_option maxRecDepth 100000 in
theorem laws_eqInt64S.calls (k : Nat) (A0 : Option Addr) (c0 : Nat) (l0 : List Int) (A1 : Option Addr) (c1 : Nat) (l1 : List Int) (r : Bool) (w : World) (hr0 : Kd.C (Kd.int .i64) w A0 l0.length l0) (hc0 : l0.length ≤ c0) (hr1 : Kd.C (Kd.int .i64) w A1 l1.length l1) (hc1 : l1.length ≤ c1) (h : laws_eqInt64S.f k l0 l1 = some r) :
  Calls Try.prog 85 #[.slice A0 l0.length c0, .slice A1 l1.length c1] w fun e w' => e = .returned (.bool r) ∧ Drawn0 w w' := by
 have HR0 := AZ.mk hr0
 have HC0 := AZ.mk hc0
 clear hr0 hc0
 have HR1 := AZ.mk hr1
 have HC1 := AZ.mk hc1
 clear hr1 hc1
 have H : (if (l0.length : Int) = (l1.length : Int) then (laws_eqInt64S.l0 k l0 l1 0) else (some false)) = some r := h
 clear h
 by_cases c3 : (l0.length : Int) = (l1.length : Int)
 rotate_left
 ·rw [if_neg c3] at H
  have c3b0 : ((l0.length : Int) == (l1.length : Int)) = false := beq_eq_false_iff_ne.mpr c3
  have c3b1 : ((l0.length : Int) != (l1.length : Int)) = true := bne_iff_ne.mpr c3
  have c3b2 : (l0.length == l1.length) = false := by first | simpa using c3 | (simp at c3 ⊢; omega)
  obtain rfl := Option.some.inj H
  go_enter Try.func85, Try.ntmps85
  go_wp2
  repeat (go_quiet (fail); try go_wp2)
  go_ret
  exact ⟨by first | rfl | (simp; done) | (simp [*]; done), by repeat (first | exact Drawn0.refl _ | apply Drawn0.step)⟩
 rw [if_pos c3] at H
 have c3b0 : ((l0.length : Int) == (l1.length : Int)) = true := beq_iff_eq.mpr c3
 have c3b1 : ((l0.length : Int) != (l1.length : Int)) = false := bne_eq_false_iff_eq.mpr c3
 have c3b2 : (l0.length == l1.length) = true := by first | simpa using c3 | (simp at c3 ⊢; omega)
 clear c3
 have H' := AZ.mk H
 clear H
 go_enter Try.func85, Try.ntmps85
 go_wp2
 repeat (go_quiet (fail); try go_wp2)
 go_loopg [5] k (fun kq v5 w' => ∃ (x5_1 : Int), v5 = .int .i64 x5_1 ∧ AZ (laws_eqInt64S.l0 kq l0 l1 x5_1 = some r) ∧ AZ (kq ≤ k) ∧ Drawn0 w w')
 case atStart => exact ⟨(0), (by first | rfl | (simp; done) | (simp [*]; done)), H', ⟨Nat.le_refl _⟩, by repeat (first | exact Drawn0.refl _ | apply Drawn0.step)⟩
 case round =>
  clear H'
  try clear c1
  try clear p2
  try clear c3
  try clear c3b0
  try clear c3b1
  try clear c3b2
  obtain ⟨x5_1, rfl, HA, HK1, ⟨m1, rfl⟩⟩ := hrel
  cases gk with
  | zero => exact absurd HA.out (by simp [laws_eqInt64S.l0])
  | succ k1 =>
   have H := HA.out
   clear HA
   simp only [laws_eqInt64S.l0] at H
   by_cases c4 : x5_1 < (l0.length : Int)
   rotate_left
   ·rw [if_neg c4] at H
    have c4b0 : decide (x5_1 < (l0.length : Int)) = false := decide_eq_false c4
    clear c4
    obtain rfl := Option.some.inj H
    go_wp2
    repeat (go_quiet (fail); try go_wp2)
    go_ret
    exact ⟨by first | rfl | (simp; done) | (simp [*]; done), by repeat (first | exact Drawn0.refl _ | apply Drawn0.step)⟩
   rw [if_pos c4] at H
   have c4b0 : decide (x5_1 < (l0.length : Int)) = true := decide_eq_true c4
   clear c4
   by_cases c5 : 0 ≤ x5_1
   rotate_left
   ·rw [if_neg c5] at H
    exact absurd H (by simp)
   rw [if_pos c5] at H
   have c5b0 : decide (0 ≤ x5_1) = true := decide_eq_true c5
   clear c5
   by_cases c6 : x5_1 < (l1.length : Int)
   rotate_left
   ·rw [if_neg c6] at H
    exact absurd H (by simp)
   rw [if_pos c6] at H
   have c6b0 : decide (x5_1 < (l1.length : Int)) = true := decide_eq_true c6
   clear c6
   by_cases c7 : (rd l0 x5_1) = (rd l1 x5_1)
   rotate_left
   ·rw [if_neg c7] at H
    have c7b0 : ((rd l0 x5_1) == (rd l1 x5_1)) = false := beq_eq_false_iff_ne.mpr c7
    have c7b1 : ((rd l0 x5_1) != (rd l1 x5_1)) = true := bne_iff_ne.mpr c7
    obtain rfl := Option.some.inj H
    have p155 : 0 ≤ (x5_1 : Int) := oT (by first | (with_reducible assumption) | assumption)
    have q155 : x5_1 < (l0.length : Int) := oT (by first | (with_reducible assumption) | assumption)
    obtain ⟨ad155, e155, hx155_0⟩ := Kd.at_int HR0.out x5_1 p155 q155
    cases e155
    replace p155 := eq_true p155
    replace q155 := eq_true q155
    have p156 : 0 ≤ (x5_1 : Int) := oT (by first | (with_reducible assumption) | assumption)
    have q156 : x5_1 < (l1.length : Int) := oT (by first | (with_reducible assumption) | assumption)
    obtain ⟨ad156, e156, hx156_0⟩ := Kd.at_int HR1.out x5_1 p156 q156
    cases e156
    replace p156 := eq_true p156
    replace q156 := eq_true q156
    go_wp2
    repeat (go_quiet (fail); try go_wp2)
    go_ret
    exact ⟨by first | rfl | (simp; done) | (simp [*]; done), by repeat (first | exact Drawn0.refl _ | apply Drawn0.step)⟩
   rw [if_pos c7] at H
   have c7b0 : ((rd l0 x5_1) == (rd l1 x5_1)) = true := beq_iff_eq.mpr c7
   have c7b1 : ((rd l0 x5_1) != (rd l1 x5_1)) = false := bne_eq_false_iff_eq.mpr c7
   clear c7
   have H' := AZ.mk H
   clear H
   have p155 : 0 ≤ (x5_1 : Int) := oT (by first | (with_reducible assumption) | assumption)
   have q155 : x5_1 < (l0.length : Int) := oT (by first | (with_reducible assumption) | assumption)
   obtain ⟨ad155, e155, hx155_0⟩ := Kd.at_int HR0.out x5_1 p155 q155
   cases e155
   replace p155 := eq_true p155
   replace q155 := eq_true q155
   have p156 : 0 ≤ (x5_1 : Int) := oT (by first | (with_reducible assumption) | assumption)
   have q156 : x5_1 < (l1.length : Int) := oT (by first | (with_reducible assumption) | assumption)
   obtain ⟨ad156, e156, hx156_0⟩ := Kd.at_int HR1.out x5_1 p156 q156
   cases e156
   replace p156 := eq_true p156
   replace q156 := eq_true q156
   go_wp2
   repeat (go_quiet (fail); try go_wp2)
   go_roundg k1
   case measure => have := HK1.out; omega
   case rel => exact ⟨(wrap64 (x5_1 + 1)), (by first | rfl | (simp; done) | (simp [*]; done)), H', ⟨by have := HK1.out; omega⟩, by repeat (first | exact Drawn0.refl _ | apply Drawn0.step)⟩
end Go.Proofs.Ytepkfigcnnfoaaa.P
namespace Go.Proofs.Ytepkfigcnnfoaaa.P
open Go.RowKit Go.Proofs.YtepkfigcnnfoaaaW.PrintWords Go.Proofs.YtepkfigcnnfoaaaW.PrintLast Go.Proofs.YtepkfigcnnfoaaaW.PrintMore
attribute [local go_sem] max2_int min2_int max_two min_two max_three min_three max_four min_four
set_option linter.unusedVariables false
set_option linter.unusedSimpArgs false
def laws_eqInt64SS.l0 : Nat → List (List Int) → List (List Int) → Int → Option (Bool)
 | 0, _, _, _ => none
 | k + 1, x0, x1, x5 => if x5 < (x0.length : Int) then (if 0 ≤ x5 then (if x5 < (x1.length : Int) then ((laws_eqInt64S.f k (rd_L4 x0 x5) (rd_L4 x1 x5)).bind fun t159 => (if t159 = true then (laws_eqInt64SS.l0 k x0 x1 (wrap64 (x5 + 1))) else (some false))) else (none)) else (none)) else (some true)
def laws_eqInt64SS.f (k : Nat) (l0 : List (List Int)) (l1 : List (List Int)) : Option (Bool) := if (l0.length : Int) = (l1.length : Int) then (laws_eqInt64SS.l0 k l0 l1 0) else (some false)
set_option maxHeartbeats 8000000 in
set_option maxRecDepth 100000 in
theorem laws_eqInt64SS.calls (k : Nat) (A0 : Option Addr) (c0 : Nat) (l0 : List (List Int)) (A1 : Option Addr) (c1 : Nat) (l1 : List (List Int)) (r : Bool) (w : World) (hr0 : Kd.C (Kd.slice 2 (Kd.int .i64)) w A0 l0.length l0) (hc0 : l0.length ≤ c0) (hr1 : Kd.C (Kd.slice 2 (Kd.int .i64)) w A1 l1.length l1) (hc1 : l1.length ≤ c1) (h : laws_eqInt64SS.f k l0 l1 = some r) :
  Calls Try.prog 37 #[.slice A0 l0.length c0, .slice A1 l1.length c1] w fun e w' => e = .returned (.bool r) ∧ Drawn0 w w' := by
 have HR0 := AZ.mk hr0
 have HC0 := AZ.mk hc0
 clear hr0 hc0
 have HR1 := AZ.mk hr1
 have HC1 := AZ.mk hc1
 clear hr1 hc1
 have H : (if (l0.length : Int) = (l1.length : Int) then (laws_eqInt64SS.l0 k l0 l1 0) else (some false)) = some r := h
 clear h
 by_cases c3 : (l0.length : Int) = (l1.length : Int)
 rotate_left
 ·rw [if_neg c3] at H
  have c3b0 : ((l0.length : Int) == (l1.length : Int)) = false := beq_eq_false_iff_ne.mpr c3
  have c3b1 : ((l0.length : Int) != (l1.length : Int)) = true := bne_iff_ne.mpr c3
  have c3b2 : (l0.length == l1.length) = false := by first | simpa using c3 | (simp at c3 ⊢; omega)
  obtain rfl := Option.some.inj H
  go_enter Try.func37, Try.ntmps37
  go_wp2
  repeat (go_quiet (fail); try go_wp2)
  go_ret
  exact ⟨by first | rfl | (simp; done) | (simp [*]; done), by repeat (first | exact Drawn0.refl _ | apply Drawn0.step)⟩
 rw [if_pos c3] at H
 have c3b0 : ((l0.length : Int) == (l1.length : Int)) = true := beq_iff_eq.mpr c3
 have c3b1 : ((l0.length : Int) != (l1.length : Int)) = false := bne_eq_false_iff_eq.mpr c3
 have c3b2 : (l0.length == l1.length) = true := by first | simpa using c3 | (simp at c3 ⊢; omega)
 clear c3
 have H' := AZ.mk H
 clear H
 go_enter Try.func37, Try.ntmps37
 go_wp2
 repeat (go_quiet (fail); try go_wp2)
 go_loopg [5] k (fun kq v5 w' => ∃ (x5_1 : Int), v5 = .int .i64 x5_1 ∧ AZ (laws_eqInt64SS.l0 kq l0 l1 x5_1 = some r) ∧ AZ (kq ≤ k) ∧ Drawn0 w w')
 case atStart => exact ⟨(0), (by first | rfl | (simp; done) | (simp [*]; done)), H', ⟨Nat.le_refl _⟩, by repeat (first | exact Drawn0.refl _ | apply Drawn0.step)⟩
 case round =>
  clear H'
  try clear c1
  try clear p2
  try clear c3
  try clear c3b0
  try clear c3b1
  try clear c3b2
  obtain ⟨x5_1, rfl, HA, HK1, ⟨m1, rfl⟩⟩ := hrel
  cases gk with
  | zero => exact absurd HA.out (by simp [laws_eqInt64SS.l0])
  | succ k1 =>
   have H := HA.out
   clear HA
   simp only [laws_eqInt64SS.l0] at H
   by_cases c4 : x5_1 < (l0.length : Int)
   rotate_left
   ·rw [if_neg c4] at H
    have c4b0 : decide (x5_1 < (l0.length : Int)) = false := decide_eq_false c4
    clear c4
    obtain rfl := Option.some.inj H
    go_wp2
    repeat (go_quiet (fail); try go_wp2)
    go_ret
    exact ⟨by first | rfl | (simp; done) | (simp [*]; done), by repeat (first | exact Drawn0.refl _ | apply Drawn0.step)⟩
   rw [if_pos c4] at H
   have c4b0 : decide (x5_1 < (l0.length : Int)) = true := decide_eq_true c4
   clear c4
   by_cases c5 : 0 ≤ x5_1
   rotate_left
   ·rw [if_neg c5] at H
    exact absurd H (by simp)
   rw [if_pos c5] at H
   have c5b0 : decide (0 ≤ x5_1) = true := decide_eq_true c5
   clear c5
   by_cases c6 : x5_1 < (l1.length : Int)
   rotate_left
   ·rw [if_neg c6] at H
    exact absurd H (by simp)
   rw [if_pos c6] at H
   have c6b0 : decide (x5_1 < (l1.length : Int)) = true := decide_eq_true c6
   clear c6
   replace H := Option.bind_eq_some_iff.mp H
   obtain ⟨t159, A70, H⟩ := H
   replace H : (if t159 = true then (laws_eqInt64SS.l0 k1 l0 l1 (wrap64 (x5_1 + 1))) else (some false)) = some r := H
   have A7 := AZ.mk A70
   clear A70
   by_cases c8 : t159 = true
   rotate_left
   ·replace c8 := Bool.eq_false_iff.mpr c8
    subst c8
    have H1 : (some false) = some r := by rw [if_neg (show ¬ (false = true) by decide)] at H; exact H
    clear H
    have H := H1
    clear H1
    obtain rfl := Option.some.inj H
    have p157 : 0 ≤ (x5_1 : Int) := oT (by first | (with_reducible assumption) | assumption)
    have q157 : x5_1 < (l0.length : Int) := oT (by first | (with_reducible assumption) | assumption)
    obtain ⟨ad157, A157_0, c157_0, e157, hx157_0, hl157_0, hi157_0⟩ := at_L4 HR0.out x5_1 p157 q157
    cases e157
    have HR157_0 := AZ.mk hi157_0
    have HC157_0 := AZ.mk hl157_0
    clear hi157_0 hl157_0
    replace p157 := eq_true p157
    replace q157 := eq_true q157
    have p158 : 0 ≤ (x5_1 : Int) := oT (by first | (with_reducible assumption) | assumption)
    have q158 : x5_1 < (l1.length : Int) := oT (by first | (with_reducible assumption) | assumption)
    obtain ⟨ad158, A158_0, c158_0, e158, hx158_0, hl158_0, hi158_0⟩ := at_L4 HR1.out x5_1 p158 q158
    cases e158
    have HR158_0 := AZ.mk hi158_0
    have HC158_0 := AZ.mk hl158_0
    clear hi158_0 hl158_0
    replace p158 := eq_true p158
    replace q158 := eq_true q158
    go_wp2_with (first | (go_at_call 85; (with_reducible refine (laws_eqInt64S.calls k1 _ _ (rd_L4 l0 x5_1) _ _ (rd_L4 l1 x5_1) false _ ?side1 ?side2 ?side3 ?side4 A7.out).mono ?_); (case side1 => repeat (first | exact HR157_0.out | (with_reducible refine Kd.C_alloc ?_ _) | (with_reducible refine Kd.C_drewN ?_ _) | (with_reducible refine Kd.C_drew ?_))); (case side2 => exact HC157_0.out); (case side3 => repeat (first | exact HR158_0.out | (with_reducible refine Kd.C_alloc ?_ _) | (with_reducible refine Kd.C_drewN ?_ _) | (with_reducible refine Kd.C_drew ?_))); (case side4 => exact HC158_0.out); rintro e w' ⟨rfl, ⟨nd, rfl⟩⟩; (try first | exact ⟨rfl, _, World.drewN_drewN _ _ _⟩ | exact ⟨rfl, _, Eq.trans (World.drewN_drewN _ _ _) (congrArg (World.drewN _) (Nat.add_assoc _ _ _))⟩)))
    repeat (go_quiet (first | (go_at_call 85; (with_reducible refine (laws_eqInt64S.calls k1 _ _ (rd_L4 l0 x5_1) _ _ (rd_L4 l1 x5_1) false _ ?side1 ?side2 ?side3 ?side4 A7.out).mono ?_); (case side1 => repeat (first | exact HR157_0.out | (with_reducible refine Kd.C_alloc ?_ _) | (with_reducible refine Kd.C_drewN ?_ _) | (with_reducible refine Kd.C_drew ?_))); (case side2 => exact HC157_0.out); (case side3 => repeat (first | exact HR158_0.out | (with_reducible refine Kd.C_alloc ?_ _) | (with_reducible refine Kd.C_drewN ?_ _) | (with_reducible refine Kd.C_drew ?_))); (case side4 => exact HC158_0.out); rintro e w' ⟨rfl, ⟨nd, rfl⟩⟩; (try first | exact ⟨rfl, _, World.drewN_drewN _ _ _⟩ | exact ⟨rfl, _, Eq.trans (World.drewN_drewN _ _ _) (congrArg (World.drewN _) (Nat.add_assoc _ _ _))⟩))); try go_wp2_with (first | (go_at_call 85; (with_reducible refine (laws_eqInt64S.calls k1 _ _ (rd_L4 l0 x5_1) _ _ (rd_L4 l1 x5_1) false _ ?side1 ?side2 ?side3 ?side4 A7.out).mono ?_); (case side1 => repeat (first | exact HR157_0.out | (with_reducible refine Kd.C_alloc ?_ _) | (with_reducible refine Kd.C_drewN ?_ _) | (with_reducible refine Kd.C_drew ?_))); (case side2 => exact HC157_0.out); (case side3 => repeat (first | exact HR158_0.out | (with_reducible refine Kd.C_alloc ?_ _) | (with_reducible refine Kd.C_drewN ?_ _) | (with_reducible refine Kd.C_drew ?_))); (case side4 => exact HC158_0.out); rintro e w' ⟨rfl, ⟨nd, rfl⟩⟩; (try first | exact ⟨rfl, _, World.drewN_drewN _ _ _⟩ | exact ⟨rfl, _, Eq.trans (World.drewN_drewN _ _ _) (congrArg (World.drewN _) (Nat.add_assoc _ _ _))⟩))))
    go_ret
    exact ⟨by first | rfl | (simp; done) | (simp [*]; done), by repeat (first | exact Drawn0.refl _ | apply Drawn0.step)⟩
   subst c8
   have H1 : (laws_eqInt64SS.l0 k1 l0 l1 (wrap64 (x5_1 + 1))) = some r := by rw [if_pos rfl] at H; exact H
   clear H
   have H := H1
   clear H1
   have H' := AZ.mk H
   clear H
   have p157 : 0 ≤ (x5_1 : Int) := oT (by first | (with_reducible assumption) | assumption)
   have q157 : x5_1 < (l0.length : Int) := oT (by first | (with_reducible assumption) | assumption)
   obtain ⟨ad157, A157_0, c157_0, e157, hx157_0, hl157_0, hi157_0⟩ := at_L4 HR0.out x5_1 p157 q157
   cases e157
   have HR157_0 := AZ.mk hi157_0
   have HC157_0 := AZ.mk hl157_0
   clear hi157_0 hl157_0
   replace p157 := eq_true p157
   replace q157 := eq_true q157
   have p158 : 0 ≤ (x5_1 : Int) := oT (by first | (with_reducible assumption) | assumption)
   have q158 : x5_1 < (l1.length : Int) := oT (by first | (with_reducible assumption) | assumption)
   obtain ⟨ad158, A158_0, c158_0, e158, hx158_0, hl158_0, hi158_0⟩ := at_L4 HR1.out x5_1 p158 q158
   cases e158
   have HR158_0 := AZ.mk hi158_0
   have HC158_0 := AZ.mk hl158_0
   clear hi158_0 hl158_0
   replace p158 := eq_true p158
   replace q158 := eq_true q158
   go_wp2_with (first | (go_at_call 85; (with_reducible refine (laws_eqInt64S.calls k1 _ _ (rd_L4 l0 x5_1) _ _ (rd_L4 l1 x5_1) true _ ?side1 ?side2 ?side3 ?side4 A7.out).mono ?_); (case side1 => repeat (first | exact HR157_0.out | (with_reducible refine Kd.C_alloc ?_ _) | (with_reducible refine Kd.C_drewN ?_ _) | (with_reducible refine Kd.C_drew ?_))); (case side2 => exact HC157_0.out); (case side3 => repeat (first | exact HR158_0.out | (with_reducible refine Kd.C_alloc ?_ _) | (with_reducible refine Kd.C_drewN ?_ _) | (with_reducible refine Kd.C_drew ?_))); (case side4 => exact HC158_0.out); rintro e w' ⟨rfl, ⟨nd, rfl⟩⟩; (try first | exact ⟨rfl, _, World.drewN_drewN _ _ _⟩ | exact ⟨rfl, _, Eq.trans (World.drewN_drewN _ _ _) (congrArg (World.drewN _) (Nat.add_assoc _ _ _))⟩)))
   repeat (go_quiet (first | (go_at_call 85; (with_reducible refine (laws_eqInt64S.calls k1 _ _ (rd_L4 l0 x5_1) _ _ (rd_L4 l1 x5_1) true _ ?side1 ?side2 ?side3 ?side4 A7.out).mono ?_); (case side1 => repeat (first | exact HR157_0.out | (with_reducible refine Kd.C_alloc ?_ _) | (with_reducible refine Kd.C_drewN ?_ _) | (with_reducible refine Kd.C_drew ?_))); (case side2 => exact HC157_0.out); (case side3 => repeat (first | exact HR158_0.out | (with_reducible refine Kd.C_alloc ?_ _) | (with_reducible refine Kd.C_drewN ?_ _) | (with_reducible refine Kd.C_drew ?_))); (case side4 => exact HC158_0.out); rintro e w' ⟨rfl, ⟨nd, rfl⟩⟩; (try first | exact ⟨rfl, _, World.drewN_drewN _ _ _⟩ | exact ⟨rfl, _, Eq.trans (World.drewN_drewN _ _ _) (congrArg (World.drewN _) (Nat.add_assoc _ _ _))⟩))); try go_wp2_with (first | (go_at_call 85; (with_reducible refine (laws_eqInt64S.calls k1 _ _ (rd_L4 l0 x5_1) _ _ (rd_L4 l1 x5_1) true _ ?side1 ?side2 ?side3 ?side4 A7.out).mono ?_); (case side1 => repeat (first | exact HR157_0.out | (with_reducible refine Kd.C_alloc ?_ _) | (with_reducible refine Kd.C_drewN ?_ _) | (with_reducible refine Kd.C_drew ?_))); (case side2 => exact HC157_0.out); (case side3 => repeat (first | exact HR158_0.out | (with_reducible refine Kd.C_alloc ?_ _) | (with_reducible refine Kd.C_drewN ?_ _) | (with_reducible refine Kd.C_drew ?_))); (case side4 => exact HC158_0.out); rintro e w' ⟨rfl, ⟨nd, rfl⟩⟩; (try first | exact ⟨rfl, _, World.drewN_drewN _ _ _⟩ | exact ⟨rfl, _, Eq.trans (World.drewN_drewN _ _ _) (congrArg (World.drewN _) (Nat.add_assoc _ _ _))⟩))))
   go_roundg k1
   case measure => have := HK1.out; omega
   case rel => exact ⟨(wrap64 (x5_1 + 1)), (by first | rfl | (simp; done) | (simp [*]; done)), H', ⟨by have := HK1.out; omega⟩, by repeat (first | exact Drawn0.refl _ | apply Drawn0.step)⟩
end Go.Proofs.Ytepkfigcnnfoaaa.P
namespace Go.Proofs.Ytepkfigcnnfoaaa.P
open Go.RowKit Go.Proofs.YtepkfigcnnfoaaaW.PrintWords Go.Proofs.YtepkfigcnnfoaaaW.PrintLast Go.Proofs.YtepkfigcnnfoaaaW.PrintMore
attribute [local go_sem] max2_int min2_int max_two min_two max_three min_three max_four min_four
set_option linter.unusedVariables false
set_option linter.unusedSimpArgs false
def laws_eqInt64SSS.l0 : Nat → List (List (List Int)) → List (List (List Int)) → Int → Option (Bool)
 | 0, _, _, _ => none
 | k + 1, x0, x1, x5 => if x5 < (x0.length : Int) then (if 0 ≤ x5 then (if x5 < (x1.length : Int) then ((laws_eqInt64SS.f k (rd_L5 x0 x5) (rd_L5 x1 x5)).bind fun t162 => (if t162 = true then (laws_eqInt64SSS.l0 k x0 x1 (wrap64 (x5 + 1))) else (some false))) else (none)) else (none)) else (some true)
def laws_eqInt64SSS.f (k : Nat) (l0 : List (List (List Int))) (l1 : List (List (List Int))) : Option (Bool) := if (l0.length : Int) = (l1.length : Int) then (laws_eqInt64SSS.l0 k l0 l1 0) else (some false)
set_option maxHeartbeats 8000000 in
set_option maxRecDepth 100000 in
theorem laws_eqInt64SSS.calls (k : Nat) (A0 : Option Addr) (c0 : Nat) (l0 : List (List (List Int))) (A1 : Option Addr) (c1 : Nat) (l1 : List (List (List Int))) (r : Bool) (w : World) (hr0 : Kd.C (Kd.slice 49 (Kd.slice 2 (Kd.int .i64))) w A0 l0.length l0) (hc0 : l0.length ≤ c0) (hr1 : Kd.C (Kd.slice 49 (Kd.slice 2 (Kd.int .i64))) w A1 l1.length l1) (hc1 : l1.length ≤ c1) (h : laws_eqInt64SSS.f k l0 l1 = some r) :
  Calls Try.prog 36 #[.slice A0 l0.length c0, .slice A1 l1.length c1] w fun e w' => e = .returned (.bool r) ∧ Drawn0 w w' := by
 have HR0 := AZ.mk hr0
 have HC0 := AZ.mk hc0
 clear hr0 hc0
 have HR1 := AZ.mk hr1
 have HC1 := AZ.mk hc1
 clear hr1 hc1
 have H : (if (l0.length : Int) = (l1.length : Int) then (laws_eqInt64SSS.l0 k l0 l1 0) else (some false)) = some r := h
 clear h
 by_cases c3 : (l0.length : Int) = (l1.length : Int)
 rotate_left
 ·rw [if_neg c3] at H
  have c3b0 : ((l0.length : Int) == (l1.length : Int)) = false := beq_eq_false_iff_ne.mpr c3
  have c3b1 : ((l0.length : Int) != (l1.length : Int)) = true := bne_iff_ne.mpr c3
  have c3b2 : (l0.length == l1.length) = false := by first | simpa using c3 | (simp at c3 ⊢; omega)
  obtain rfl := Option.some.inj H
  go_enter Try.func36, Try.ntmps36
  go_wp2
  repeat (go_quiet (fail); try go_wp2)
  go_ret
  exact ⟨by first | rfl | (simp; done) | (simp [*]; done), by repeat (first | exact Drawn0.refl _ | apply Drawn0.step)⟩
 rw [if_pos c3] at H
 have c3b0 : ((l0.length : Int) == (l1.length : Int)) = true := beq_iff_eq.mpr c3
 have c3b1 : ((l0.length : Int) != (l1.length : Int)) = false := bne_eq_false_iff_eq.mpr c3
 have c3b2 : (l0.length == l1.length) = true := by first | simpa using c3 | (simp at c3 ⊢; omega)
 clear c3
 have H' := AZ.mk H
 clear H
 go_enter Try.func36, Try.ntmps36
 go_wp2
 repeat (go_quiet (fail); try go_wp2)
 go_loopg [5] k (fun kq v5 w' => ∃ (x5_1 : Int), v5 = .int .i64 x5_1 ∧ AZ (laws_eqInt64SSS.l0 kq l0 l1 x5_1 = some r) ∧ AZ (kq ≤ k) ∧ Drawn0 w w')
 case atStart => exact ⟨(0), (by first | rfl | (simp; done) | (simp [*]; done)), H', ⟨Nat.le_refl _⟩, by repeat (first | exact Drawn0.refl _ | apply Drawn0.step)⟩
 case round =>
  clear H'
  try clear c1
  try clear p2
  try clear c3
  try clear c3b0
  try clear c3b1
  try clear c3b2
  obtain ⟨x5_1, rfl, HA, HK1, ⟨m1, rfl⟩⟩ := hrel
  cases gk with
  | zero => exact absurd HA.out (by simp [laws_eqInt64SSS.l0])
  | succ k1 =>
   have H := HA.out
   clear HA
   simp only [laws_eqInt64SSS.l0] at H
   by_cases c4 : x5_1 < (l0.length : Int)
   rotate_left
   ·rw [if_neg c4] at H
    have c4b0 : decide (x5_1 < (l0.length : Int)) = false := decide_eq_false c4
    clear c4
    obtain rfl := Option.some.inj H
    go_wp2
    repeat (go_quiet (fail); try go_wp2)
    go_ret
    exact ⟨by first | rfl | (simp; done) | (simp [*]; done), by repeat (first | exact Drawn0.refl _ | apply Drawn0.step)⟩
   rw [if_pos c4] at H
   have c4b0 : decide (x5_1 < (l0.length : Int)) = true := decide_eq_true c4
   clear c4
   by_cases c5 : 0 ≤ x5_1
   rotate_left
   ·rw [if_neg c5] at H
    exact absurd H (by simp)
   rw [if_pos c5] at H
   have c5b0 : decide (0 ≤ x5_1) = true := decide_eq_true c5
   clear c5
   by_cases c6 : x5_1 < (l1.length : Int)
   rotate_left
   ·rw [if_neg c6] at H
    exact absurd H (by simp)
   rw [if_pos c6] at H
   have c6b0 : decide (x5_1 < (l1.length : Int)) = true := decide_eq_true c6
   clear c6
   replace H := Option.bind_eq_some_iff.mp H
   obtain ⟨t162, A70, H⟩ := H
   replace H : (if t162 = true then (laws_eqInt64SSS.l0 k1 l0 l1 (wrap64 (x5_1 + 1))) else (some false)) = some r := H
   have A7 := AZ.mk A70
   clear A70
   by_cases c8 : t162 = true
   rotate_left
   ·replace c8 := Bool.eq_false_iff.mpr c8
    subst c8
    have H1 : (some false) = some r := by rw [if_neg (show ¬ (false = true) by decide)] at H; exact H
    clear H
    have H := H1
    clear H1
    obtain rfl := Option.some.inj H
    have p160 : 0 ≤ (x5_1 : Int) := oT (by first | (with_reducible assumption) | assumption)
    have q160 : x5_1 < (l0.length : Int) := oT (by first | (with_reducible assumption) | assumption)
    obtain ⟨ad160, A160_0, c160_0, e160, hx160_0, hl160_0, hi160_0⟩ := at_L5 HR0.out x5_1 p160 q160
    cases e160
    have HR160_0 := AZ.mk hi160_0
    have HC160_0 := AZ.mk hl160_0
    clear hi160_0 hl160_0
    replace p160 := eq_true p160
    replace q160 := eq_true q160
    have p161 : 0 ≤ (x5_1 : Int) := oT (by first | (with_reducible assumption) | assumption)
    have q161 : x5_1 < (l1.length : Int) := oT (by first | (with_reducible assumption) | assumption)
    obtain ⟨ad161, A161_0, c161_0, e161, hx161_0, hl161_0, hi161_0⟩ := at_L5 HR1.out x5_1 p161 q161
    cases e161
    have HR161_0 := AZ.mk hi161_0
    have HC161_0 := AZ.mk hl161_0
    clear hi161_0 hl161_0
    replace p161 := eq_true p161
    replace q161 := eq_true q161
    go_wp2_with (first | (go_at_call 37; (with_reducible refine (laws_eqInt64SS.calls k1 _ _ (rd_L5 l0 x5_1) _ _ (rd_L5 l1 x5_1) false _ ?side1 ?side2 ?side3 ?side4 A7.out).mono ?_); (case side1 => repeat (first | exact HR160_0.out | (with_reducible refine Kd.C_alloc ?_ _) | (with_reducible refine Kd.C_drewN ?_ _) | (with_reducible refine Kd.C_drew ?_))); (case side2 => exact HC160_0.out); (case side3 => repeat (first | exact HR161_0.out | (with_reducible refine Kd.C_alloc ?_ _) | (with_reducible refine Kd.C_drewN ?_ _) | (with_reducible refine Kd.C_drew ?_))); (case side4 => exact HC161_0.out); rintro e w' ⟨rfl, ⟨nd, rfl⟩⟩; (try first | exact ⟨rfl, _, World.drewN_drewN _ _ _⟩ | exact ⟨rfl, _, Eq.trans (World.drewN_drewN _ _ _) (congrArg (World.drewN _) (Nat.add_assoc _ _ _))⟩)))
    repeat (go_quiet (first | (go_at_call 37; (with_reducible refine (laws_eqInt64SS.calls k1 _ _ (rd_L5 l0 x5_1) _ _ (rd_L5 l1 x5_1) false _ ?side1 ?side2 ?side3 ?side4 A7.out).mono ?_); (case side1 => repeat (first | exact HR160_0.out | (with_reducible refine Kd.C_alloc ?_ _) | (with_reducible refine Kd.C_drewN ?_ _) | (with_reducible refine Kd.C_drew ?_))); (case side2 => exact HC160_0.out); (case side3 => repeat (first | exact HR161_0.out | (with_reducible refine Kd.C_alloc ?_ _) | (with_reducible refine Kd.C_drewN ?_ _) | (with_reducible refine Kd.C_drew ?_))); (case side4 => exact HC161_0.out); rintro e w' ⟨rfl, ⟨nd, rfl⟩⟩; (try first | exact ⟨rfl, _, World.drewN_drewN _ _ _⟩ | exact ⟨rfl, _, Eq.trans (World.drewN_drewN _ _ _) (congrArg (World.drewN _) (Nat.add_assoc _ _ _))⟩))); try go_wp2_with (first | (go_at_call 37; (with_reducible refine (laws_eqInt64SS.calls k1 _ _ (rd_L5 l0 x5_1) _ _ (rd_L5 l1 x5_1) false _ ?side1 ?side2 ?side3 ?side4 A7.out).mono ?_); (case side1 => repeat (first | exact HR160_0.out | (with_reducible refine Kd.C_alloc ?_ _) | (with_reducible refine Kd.C_drewN ?_ _) | (with_reducible refine Kd.C_drew ?_))); (case side2 => exact HC160_0.out); (case side3 => repeat (first | exact HR161_0.out | (with_reducible refine Kd.C_alloc ?_ _) | (with_reducible refine Kd.C_drewN ?_ _) | (with_reducible refine Kd.C_drew ?_))); (case side4 => exact HC161_0.out); rintro e w' ⟨rfl, ⟨nd, rfl⟩⟩; (try first | exact ⟨rfl, _, World.drewN_drewN _ _ _⟩ | exact ⟨rfl, _, Eq.trans (World.drewN_drewN _ _ _) (congrArg (World.drewN _) (Nat.add_assoc _ _ _))⟩))))
    go_ret
    exact ⟨by first | rfl | (simp; done) | (simp [*]; done), by repeat (first | exact Drawn0.refl _ | apply Drawn0.step)⟩
   subst c8
   have H1 : (laws_eqInt64SSS.l0 k1 l0 l1 (wrap64 (x5_1 + 1))) = some r := by rw [if_pos rfl] at H; exact H
   clear H
   have H := H1
   clear H1
   have H' := AZ.mk H
   clear H
   have p160 : 0 ≤ (x5_1 : Int) := oT (by first | (with_reducible assumption) | assumption)
   have q160 : x5_1 < (l0.length : Int) := oT (by first | (with_reducible assumption) | assumption)
   obtain ⟨ad160, A160_0, c160_0, e160, hx160_0, hl160_0, hi160_0⟩ := at_L5 HR0.out x5_1 p160 q160
   cases e160
   have HR160_0 := AZ.mk hi160_0
   have HC160_0 := AZ.mk hl160_0
   clear hi160_0 hl160_0
   replace p160 := eq_true p160
   replace q160 := eq_true q160
   have p161 : 0 ≤ (x5_1 : Int) := oT (by first | (with_reducible assumption) | assumption)
   have q161 : x5_1 < (l1.length : Int) := oT (by first | (with_reducible assumption) | assumption)
   obtain ⟨ad161, A161_0, c161_0, e161, hx161_0, hl161_0, hi161_0⟩ := at_L5 HR1.out x5_1 p161 q161
   cases e161
   have HR161_0 := AZ.mk hi161_0
   have HC161_0 := AZ.mk hl161_0
   clear hi161_0 hl161_0
   replace p161 := eq_true p161
   replace q161 := eq_true q161
   go_wp2_with (first | (go_at_call 37; (with_reducible refine (laws_eqInt64SS.calls k1 _ _ (rd_L5 l0 x5_1) _ _ (rd_L5 l1 x5_1) true _ ?side1 ?side2 ?side3 ?side4 A7.out).mono ?_); (case side1 => repeat (first | exact HR160_0.out | (with_reducible refine Kd.C_alloc ?_ _) | (with_reducible refine Kd.C_drewN ?_ _) | (with_reducible refine Kd.C_drew ?_))); (case side2 => exact HC160_0.out); (case side3 => repeat (first | exact HR161_0.out | (with_reducible refine Kd.C_alloc ?_ _) | (with_reducible refine Kd.C_drewN ?_ _) | (with_reducible refine Kd.C_drew ?_))); (case side4 => exact HC161_0.out); rintro e w' ⟨rfl, ⟨nd, rfl⟩⟩; (try first | exact ⟨rfl, _, World.drewN_drewN _ _ _⟩ | exact ⟨rfl, _, Eq.trans (World.drewN_drewN _ _ _) (congrArg (World.drewN _) (Nat.add_assoc _ _ _))⟩)))
   repeat (go_quiet (first | (go_at_call 37; (with_reducible refine (laws_eqInt64SS.calls k1 _ _ (rd_L5 l0 x5_1) _ _ (rd_L5 l1 x5_1) true _ ?side1 ?side2 ?side3 ?side4 A7.out).mono ?_); (case side1 => repeat (first | exact HR160_0.out | (with_reducible refine Kd.C_alloc ?_ _) | (with_reducible refine Kd.C_drewN ?_ _) | (with_reducible refine Kd.C_drew ?_))); (case side2 => exact HC160_0.out); (case side3 => repeat (first | exact HR161_0.out | (with_reducible refine Kd.C_alloc ?_ _) | (with_reducible refine Kd.C_drewN ?_ _) | (with_reducible refine Kd.C_drew ?_))); (case side4 => exact HC161_0.out); rintro e w' ⟨rfl, ⟨nd, rfl⟩⟩; (try first | exact ⟨rfl, _, World.drewN_drewN _ _ _⟩ | exact ⟨rfl, _, Eq.trans (World.drewN_drewN _ _ _) (congrArg (World.drewN _) (Nat.add_assoc _ _ _))⟩))); try go_wp2_with (first | (go_at_call 37; (with_reducible refine (laws_eqInt64SS.calls k1 _ _ (rd_L5 l0 x5_1) _ _ (rd_L5 l1 x5_1) true _ ?side1 ?side2 ?side3 ?side4 A7.out).mono ?_); (case side1 => repeat (first | exact HR160_0.out | (with_reducible refine Kd.C_alloc ?_ _) | (with_reducible refine Kd.C_drewN ?_ _) | (with_reducible refine Kd.C_drew ?_))); (case side2 => exact HC160_0.out); (case side3 => repeat (first | exact HR161_0.out | (with_reducible refine Kd.C_alloc ?_ _) | (with_reducible refine Kd.C_drewN ?_ _) | (with_reducible refine Kd.C_drew ?_))); (case side4 => exact HC161_0.out); rintro e w' ⟨rfl, ⟨nd, rfl⟩⟩; (try first | exact ⟨rfl, _, World.drewN_drewN _ _ _⟩ | exact ⟨rfl, _, Eq.trans (World.drewN_drewN _ _ _) (congrArg (World.drewN _) (Nat.add_assoc _ _ _))⟩))))
   go_roundg k1
   case measure => have := HK1.out; omega
   case rel => exact ⟨(wrap64 (x5_1 + 1)), (by first | rfl | (simp; done) | (simp [*]; done)), H', ⟨by have := HK1.out; omega⟩, by repeat (first | exact Drawn0.refl _ | apply Drawn0.step)⟩
end Go.Proofs.Ytepkfigcnnfoaaa.P
namespace Go.Proofs.Ytepkfigcnnfoaaa.P
open Go.RowKit Go.Proofs.YtepkfigcnnfoaaaW.PrintWords Go.Proofs.YtepkfigcnnfoaaaW.PrintLast Go.Proofs.YtepkfigcnnfoaaaW.PrintMore
attribute [local go_sem] max2_int min2_int max_two min_two max_three min_three max_four min_four
set_option linter.unusedVariables false
set_option linter.unusedSimpArgs false
def laws_eqChecker.f (k : Nat) (a0_0 : Int) (a0_1 : Int) (l0_2 : List Bool) (l0_3 : List (List (S47))) (l0_4 : List (List (List Int))) (l0_5 : List (List Int)) (a1_0 : Int) (a1_1 : Int) (l1_2 : List Bool) (l1_3 : List (List (S47))) (l1_4 : List (List (List Int))) (l1_5 : List (List Int)) : Option (Bool) := if a0_0 = a1_0 then (if a0_1 = a1_1 then ((laws_eqBoolS.f k l0_2 l1_2).bind fun t165 => (if t165 = true then ((laws_eqPushSS.f k l0_3 l1_3).bind fun t166 => (if t166 = true then ((laws_eqInt64SSS.f k l0_4 l1_4).bind fun t167 => (if t167 = true then ((laws_eqInt64SS.f k l0_5 l1_5).bind fun t168 => (if t168 = true then (some true) else (some false))) else (some false))) else (some false))) else (some false))) else (some false)) else (some false)
end Go.Proofs.Ytepkfigcnnfoaaa.P
namespace Go.Proofs.Ytepkfigcnnfoaaa.P
open Go.RowKit Go.Proofs.YtepkfigcnnfoaaaW.PrintWords Go.Proofs.YtepkfigcnnfoaaaW.PrintLast Go.Proofs.YtepkfigcnnfoaaaW.PrintMore Go.Proofs.Ytepkfigcnnfoaaa.Deep
set_option linter.unusedVariables false
set_option linter.unusedSimpArgs false
def Rd {α : Type} (d : Kd α) (w : World) (v : Value) (xs : List α) : Prop := ∃ A c, v = .slice A xs.length c ∧ xs.length ≤ c ∧ d.C w A xs.length xs
theorem Rd.below {α : Type} {d : Kd α} {w w' : World} {v : Value} {xs : List α} (h : Rd d w v xs) (hb : Below w.heap.size w w') : Rd d w' v xs := by
 obtain ⟨A, c, e, hl, hC⟩ := h
 exact ⟨A, c, e, hl, Kd.C_below hC hb⟩
theorem Rd.ofR {α : Type} {d : Kd α} {e : TypeId} {w : World} {B : Nat} {ok : Nat → Prop} {v : Value} {xs : List α} (h : d.R e w B ok v xs) : Rd d w v xs := Kd.R_reads h
theorem Rd.ofS {α : Type} {d : Kd α} {e : TypeId} {w : World} {B : Nat} {ok : Nat → Prop} {v : Value} {xs : List α} (h : Kd.S d e w B ok v xs) : Rd d w v xs := Kd.S_reads h
def Reads (w : World) (vA vC vR vI : Value) (LA : List Bool) (LC : List (List S47)) (LR : List (List (List Int))) (LI : List (List Int)) : Prop :=
 Rd Kd.bool w vA LA ∧ Rd (Kd.slice 47 k47) w vC LC ∧ Rd (Kd.slice 49 (Kd.slice 2 (Kd.int .i64))) w vR LR ∧ Rd (Kd.slice 2 (Kd.int .i64)) w vI LI
section
variable {w w' : World} {B : Nat} {vA vC vR vI vA' vC' vR' vI' : Value} {LA LA' : List Bool} {LC LC' : List (List S47)} {LR LR' : List (List (List Int))} {LI LI' : List (List Int)}
theorem Reads.below (h : Reads w vA vC vR vI LA LC LR LI) (hb : Below w.heap.size w w') : Reads w' vA vC vR vI LA LC LR LI := ⟨h.1.below hb, h.2.1.below hb, h.2.2.1.below hb, h.2.2.2.below hb⟩
theorem Reads.own (h : OwnC w B vA vC vR vI LA LC LR LI) : Reads w vA vC vR vI LA LC LR LI := by
 obtain ⟨f, h0, h1, h2, h3⟩ := h
 obtain ⟨A, c, e, hl, hC⟩ := Rd.ofS h2
 exact ⟨Rd.ofR h0, Rd.ofS h1, ⟨A, c, e, hl, hC⟩, Rd.ofS h3⟩
theorem own_below (h : OwnC w B vA vC vR vI LA LC LR LI) (hb : Below w.heap.size w w') : OwnC w' B vA vC vR vI LA LC LR LI := by
 obtain ⟨f, h0, h1, h2, h3⟩ := h
 have hgr := grown_of_below hb none
 exact ⟨f, Kd.R_grown h0 hgr (fun _ _ e => by cases e), Kd.S_grown h1 hgr (fun _ _ e => by cases e), Kd.S_grown h2 hgr (fun _ _ e => by cases e), Kd.S_grown h3 hgr (fun _ _ e => by cases e)⟩
theorem own_far {B' : Nat} (h : OwnC w B vA vC vR vI LA LC LR LI) (hfar : ∀ k, B ≤ k → w'.heap[k]? = w.heap[k]?) (hle : B' ≤ B) : OwnC w' B' vA vC vR vI LA LC LR LI := by
 obtain ⟨f, h0, h1, h2, h3⟩ := h
 exact ⟨f, Kd.R_lower (Kd.R_mono (Kd.R_step (Kd.R_bound h0) (fun k hk _ => hfar k hk.2.1)) (fun _ hk => hk.1)) hle, Kd.S_lower (Kd.S_mono (Kd.S_step (Kd.S_bound h1) (fun k hk _ => hfar k hk.2.1)) (fun _ hk => hk.1)) hle, Kd.S_lower (Kd.S_mono (Kd.S_step (Kd.S_bound h2) (fun k hk _ => hfar k hk.2.1)) (fun _ hk => hk.1)) hle, Kd.S_lower (Kd.S_mono (Kd.S_step (Kd.S_bound h3) (fun k hk _ => hfar k hk.2.1)) (fun _ hk => hk.1)) hle⟩
theorem numE_pos : 0 ≤ numE LA LC LR LI := by unfold numE numI numR numC; omega
theorem reads_shape (h : Reads w vA vC vR vI LA LC LR LI) : (∃ A n c, vA = .slice A n c) ∧ (∃ A n c, vC = .slice A n c) ∧ (∃ A n c, vR = .slice A n c) ∧ (∃ A n c, vI = .slice A n c) := by
 obtain ⟨⟨A0, c0, rfl, l0, g0⟩, ⟨A1, c1, rfl, l1, g1⟩, ⟨A2, c2, rfl, l2, g2⟩, ⟨A3, c3, rfl, l3, g3⟩⟩ := h
 exact ⟨⟨_, _, _, rfl⟩, ⟨_, _, _, rfl⟩, ⟨_, _, _, rfl⟩, ⟨_, _, _, rfl⟩⟩
end
def cellsI (m st : Int) (vA vC vR vI : Value) : Array Value := #[.int .i64 m, .int .i64 st, vA, vC, vR, vI]
theorem cellsI_one {w : World} {vA vC vR vI : Value} {LA : List Bool} {LC : List (List S47)} {LR : List (List (List Int))} {LI : List (List Int)} (m st : Int) (h : Reads w vA vC vR vI LA LC LR LI) : (cellsI m st vA vC vR vI).all (·.oneCell') = true := by
 obtain ⟨⟨_, _, _, rfl⟩, ⟨_, _, _, rfl⟩, ⟨_, _, _, rfl⟩, ⟨_, _, _, rfl⟩⟩ := reads_shape h
 rw [Array.all_eq_true_iff_forall_mem]
 intro x hx
 unfold cellsI at hx
 rw [List.mem_toArray] at hx
 rcases List.mem_cons.1 hx with rfl | hx
 ·rfl
 rcases List.mem_cons.1 hx with rfl | hx
 ·rfl
 rcases List.mem_cons.1 hx with rfl | hx
 ·rfl
 rcases List.mem_cons.1 hx with rfl | hx
 ·rfl
 rcases List.mem_cons.1 hx with rfl | hx
 ·rfl
 rw [List.mem_singleton.1 hx]
 rfl
end Go.Proofs.Ytepkfigcnnfoaaa.P
namespace Go.Proofs.Ytepkfigcnnfoaaa.P
open Go.RowKit Go.Proofs.YtepkfigcnnfoaaaW.PrintWords Go.Proofs.YtepkfigcnnfoaaaW.PrintLast Go.Proofs.YtepkfigcnnfoaaaW.PrintMore Go.Proofs.Ytepkfigcnnfoaaa.Deep
set_option linter.unusedVariables false
set_option linter.unusedSimpArgs false
theorem cells4_one (m st : Int) (A0 A1 A2 A3 : Option Addr) (n0 n1 n2 n3 c0 c1 c2 c3 : Nat) : (cellsI m st (.slice A0 n0 c0) (.slice A1 n1 c1) (.slice A2 n2 c2) (.slice A3 n3 c3)).all (·.oneCell') = true := by
  rw [Array.all_eq_true_iff_forall_mem]
  intro x hx
  unfold cellsI at hx
  rw [List.mem_toArray] at hx
  rcases List.mem_cons.1 hx with rfl | hx
  · rfl
  rcases List.mem_cons.1 hx with rfl | hx
  · rfl
  rcases List.mem_cons.1 hx with rfl | hx
  · rfl
  rcases List.mem_cons.1 hx with rfl | hx
  · rfl
  rcases List.mem_cons.1 hx with rfl | hx
  · rfl
  rw [List.mem_singleton.1 hx]
  rfl
theorem own_far' {w w9 : World} {B gZ : Nat} {cs : Array Value} {vA vC vR vI : Value} {LA : List Bool} {LC : List (List S47)} {LR : List (List (List Int))} {LI : List (List Int)} (h : OwnC w B vA vC vR vI LA LC LR LI) (hZ : w.heap[gZ]? = some (.cells cs 27 (0, 0))) (hfar : ∀ k, k ≠ gZ → w9.heap[k]? = w.heap[k]?) : OwnC w9 B vA vC vR vI LA LC LR LI := by
  obtain ⟨f, h0, h1, h2, h3⟩ := h
  exact ⟨f, Kd.R_mono (Kd.R_step (Kd.R_types h0 hZ (by decide)) (fun k hk _ => hfar k hk.2)) (fun _ hk => hk.1), Kd.S_mono (Kd.S_step (Kd.S_types h1 hZ (by decide)) (fun k hk _ => hfar k hk.2)) (fun _ hk => hk.1), Kd.S_mono (Kd.S_step (Kd.S_types h2 hZ (by decide)) (fun k hk _ => hfar k hk.2)) (fun _ hk => hk.1), Kd.S_mono (Kd.S_step (Kd.S_types h3 hZ (by decide)) (fun k hk _ => hfar k hk.2)) (fun _ hk => hk.1)⟩
theorem own_four {w : World} {B N0 N1 N2 N3 N4 : Nat} {vA vC vR vI : Value} {LA : List Bool} {LC : List (List S47)} {LR : List (List (List Int))} {LI : List (List Int)}
    (hn1 : N1 ≤ N2) (hn2 : N2 ≤ N3) (h0 : Kd.bool.R 4 w B (fun k => N0 ≤ k ∧ k < N1) vA LA) (h1 : Kd.S (Kd.slice 47 k47) 48 w B (fun k => N1 ≤ k ∧ k < N2) vC LC) (h2 : Kd.S (sliceS 49 (Kd.slice 2 (Kd.int .i64))) 25 w B (fun k => N2 ≤ k ∧ k < N3) vR LR) (h3 : Kd.S (Kd.slice 2 (Kd.int .i64)) 49 w B (fun k => N3 ≤ k ∧ k < N4) vI LI) : OwnC w B vA vC vR vI LA LC LR LI :=
  ⟨fun k => if k < N1 then 0 else if k < N2 then 1 else if k < N3 then 2 else 3, Kd.R_mono h0 (fun k hk => if_pos hk.2), Kd.S_mono h1 (fun k hk => (if_neg (by omega)).trans (if_pos hk.2)),
   Kd.S_mono h2 (fun k hk => by show (if k < N1 then 0 else if k < N2 then 1 else if k < N3 then 2 else 3) = 2; rw [if_neg (by omega), if_neg (by omega), if_pos hk.2]), Kd.S_mono h3 (fun k hk => by show (if k < N1 then 0 else if k < N2 then 1 else if k < N3 then 2 else 3) = 3; rw [if_neg (by omega), if_neg (by omega), if_neg (by omega)])⟩
set_option maxHeartbeats 8000000 in
set_option maxRecDepth 100000 in
theorem toChecker_calls (k : Nat) (m st : Int) (A2 : Option Addr) (c2 : Nat) (l2 : List Bool) (A3 : Option Addr) (c3 : Nat) (l3 : List (List S101)) (A4 : Option Addr) (c4 : Nat) (l4 : List (List (List Int))) (A5 : Option Addr) (c5 : Nat) (l5 : List (List Int)) (r2 : List Bool) (r3 : List (List S47)) (r4 : List (List (List Int))) (r5 : List (List Int)) (w : World)
    (hc2 : Kd.C Kd.bool w A2 l2.length l2) (hd2 : l2.length ≤ c2) (hc3 : Kd.C (Kd.slice 101 k101) w A3 l3.length l3) (hd3 : l3.length ≤ c3) (hc4 : Kd.C (Kd.slice 49 (Kd.slice 2 (Kd.int .i64))) w A4 l4.length l4) (hd4 : l4.length ≤ c4) (hc5 : Kd.C (Kd.slice 2 (Kd.int .i64)) w A5 l5.length l5) (hd5 : l5.length ≤ c5)
    (e2 : laws_toBoolS.f k l2 = some r2) (e3 : laws_toPushSS.f k l3 = some r3) (e4 : laws_toInt64SSS.f k l4 = some r4) (e5 : laws_toInt64SS.f k l5 = some r5) :
    Calls Try.prog 23 #[.agg #[.int .i64 m, .int .i64 st, .slice A2 l2.length c2, .slice A3 l3.length c3, .slice A4 l4.length c4, .slice A5 l5.length c5]] w fun e w' => ∃ vA vC vR vI : Value, e = .returned (.agg #[.int .i64 m, .int .i64 st, vA, vC, vR, vI]) ∧ OwnC w' w.heap.size vA vC vR vI r2 r3 r4 r5 ∧ Below w.heap.size w w' := by
  have hu27 := Try.underlying27
  have HB := AZ.mk (Below.refl w.heap.size w)
  have C2 := AZ.mk hc2
  have D2 := AZ.mk hd2
  have E2 := AZ.mk e2
  have C3 := AZ.mk hc3
  have D3 := AZ.mk hd3
  have E3 := AZ.mk e3
  have C4 := AZ.mk hc4
  have D4 := AZ.mk hd4
  have E4 := AZ.mk e4
  have C5 := AZ.mk hc5
  have D5 := AZ.mk hd5
  have E5 := AZ.mk e5
  clear hc2 hd2 hc3 hd3 hc4 hd4 hc5 hd5 e2 e3 e4 e5
  go_enter Try.func23, Try.ntmps23
  go_wp2_with (first | ((with_reducible refine gate_dst (N := 1) rfl ?_); refine box_event ?hg (N := 1) ?hd (cs := #[.int .i64 m, .int .i64 st, .slice A2 l2.length c2, .slice A3 l3.length c3, .slice A4 l4.length c4, .slice A5 l5.length c5]) (t := 39) ?hr ?_; (case hd => rfl); (case hg => rfl); (case hr => first | (go_simp; done) | (go_simp; rfl)); intro gB hg WgB hbx hb; have BB := AZ.mk hbx; have n_ := AZ.mk (pT HB.out hb); clear HB hb hbx hg; have HB := n_; clear n_) | ((with_reducible refine gate_dst (N := 2) rfl ?_); refine box_event ?hg (N := 2) ?hd (cs := cZ) (t := 27) ?hr ?_; (case hd => rfl); (case hg => rfl); (case hr => first | (go_simp; done) | (go_simp; rfl)); intro gZ hg WgZ hbx hb; have BZ := AZ.mk hbx; have GZ := AZ.mk (show w.heap.size ≤ gZ by rw [hg]; exact pZ HB.out); have n_ := AZ.mk (pT HB.out hb); have n2_ := AZ.mk (bb_ BB.out hb); clear HB BB hb hbx hg; have HB := n_; have BB := n2_; clear n_ n2_) | ((with_reducible refine gate_dst (N := 3) rfl ?_); refine box_event ?hg (N := 3) ?hd (cs := #[(.int .i64 0), (.int .i64 0), (.slice none 0 0), (.slice none 0 0), (.slice none 0 0), (.slice none 0 0)]) (t := 27) ?hr ?_; (case hd => rfl); (case hg => rfl); (case hr => first | (go_simp; done) | (go_simp; rfl)); intro gX hg WgX hbx hb; have BX := AZ.mk hbx; have GX := AZ.mk (show w.heap.size ≤ gX by rw [hg]; exact pZ HB.out); have NZ := AZ.mk (show gZ ≠ gX by rw [hg]; exact Nat.ne_of_lt (blk_lt BZ.out)); have NB := AZ.mk (show gB ≠ gX by rw [hg]; exact Nat.ne_of_lt (blk_lt BB.out)); have n_ := AZ.mk (pT HB.out hb); have n2_ := AZ.mk (bb_ BB.out hb); have n3_ := AZ.mk (bb_ BZ.out hb); clear HB BB BZ hb hbx hg; have HB := n_; have BB := n2_; have BZ := n3_; clear n_ n2_ n3_; obtain ⟨N0, hN0⟩ : ∃ n, n = WgX.heap.size := ⟨_, rfl⟩; have SZ := AZ.mk (Nat.le_of_eq hN0); clear hN0; have hx0 : WgX.cell? ⟨gX, 0, none⟩ = some (.int .i64 0) := (bc BX.out 0).trans rfl; have hf0 := bf BX.out 0; have hx1 : WgX.cell? ⟨gX, 1, none⟩ = some (.int .i64 0) := (bc BX.out 1).trans rfl; have hf1 := bf BX.out 1; have hx2 : WgX.cell? ⟨gX, 2, none⟩ = some (.slice none 0 0) := (bc BX.out 2).trans rfl; have hf2 := bf BX.out 2; have hx3 : WgX.cell? ⟨gX, 3, none⟩ = some (.slice none 0 0) := (bc BX.out 3).trans rfl; have hf3 := bf BX.out 3; have hx4 : WgX.cell? ⟨gX, 4, none⟩ = some (.slice none 0 0) := (bc BX.out 4).trans rfl; have hf4 := bf BX.out 4; have hx5 : WgX.cell? ⟨gX, 5, none⟩ = some (.slice none 0 0) := (bc BX.out 5).trans rfl; have hf5 := bf BX.out 5; have hy0 : WgX.cell? ⟨gB, 0, none⟩ = some (.int .i64 m) := (bc BB.out 0).trans rfl; have hy1 : WgX.cell? ⟨gB, 1, none⟩ = some (.int .i64 st) := (bc BB.out 1).trans rfl; have hy2 : WgX.cell? ⟨gB, 2, none⟩ = some (.slice A2 l2.length c2) := (bc BB.out 2).trans rfl; have hy3 : WgX.cell? ⟨gB, 3, none⟩ = some (.slice A3 l3.length c3) := (bc BB.out 3).trans rfl; have hy4 : WgX.cell? ⟨gB, 4, none⟩ = some (.slice A4 l4.length c4) := (bc BB.out 4).trans rfl; have hy5 : WgX.cell? ⟨gB, 5, none⟩ = some (.slice A5 l5.length c5) := (bc BB.out 5).trans rfl) | ((with_reducible refine gate_store (t := 2) (p := 6) rfl ?_); refine store_event (t := 2) (p := 6) (v := ?vo_0) (w1 := World.setCell WgX ⟨gX, 0, none⟩ (.int .i64 m)) ?hg ?ho ?hn ?hr ?_; (case ho => rfl); (case hg => rfl); (case hn => rfl); (case hr => first | (go_simp; done) | (go_simp; rfl)); intro WX0 hw; have n0_ : AZ (Below w.heap.size w WX0) := ⟨by rw [hw]; exact pS HB.out GX.out⟩; have n1_ : AZ (WX0.heap[gB]? = some (.cells #[.int .i64 m, .int .i64 st, .slice A2 l2.length c2, .slice A3 l3.length c3, .slice A4 l4.length c4, .slice A5 l5.length c5] 39 (0, 0))) := ⟨by rw [hw]; exact (Below.heap_setCell _ _ _ _ NB.out).trans BB.out⟩; have n2_ : AZ (WX0.heap[gZ]? = some (.cells cZ 27 (0, 0))) := ⟨by rw [hw]; exact (Below.heap_setCell _ _ _ _ NZ.out).trans BZ.out⟩; have n3_ : AZ (N0 ≤ WX0.heap.size) := ⟨by rw [hw, World.size_setCell]; exact SZ.out⟩; have n4_ : AZ (WX0.heap[gX]? = some (.cells #[(.int .i64 m), (.int .i64 0), (.slice none 0 0), (.slice none 0 0), (.slice none 0 0), (.slice none 0 0)] 27 (0, 0))) := ⟨by rw [hw]; exact blk_put BX.out 0 _ rfl⟩; clear HB BB BZ SZ BX hw; clear hx0 hf0 hy0 hx1 hf1 hy1 hx2 hf2 hy2 hx3 hf3 hy3 hx4 hf4 hy4 hx5 hf5 hy5; have HB := n0_; have BB := n1_; have BZ := n2_; have SZ := n3_; have BX := n4_; clear n0_ n1_ n2_ n3_ n4_; have hx0 : WX0.cell? ⟨gX, 0, none⟩ = some (.int .i64 m) := (bc BX.out 0).trans rfl; have hf0 := bf BX.out 0; have hx1 : WX0.cell? ⟨gX, 1, none⟩ = some (.int .i64 0) := (bc BX.out 1).trans rfl; have hf1 := bf BX.out 1; have hx2 : WX0.cell? ⟨gX, 2, none⟩ = some (.slice none 0 0) := (bc BX.out 2).trans rfl; have hf2 := bf BX.out 2; have hx3 : WX0.cell? ⟨gX, 3, none⟩ = some (.slice none 0 0) := (bc BX.out 3).trans rfl; have hf3 := bf BX.out 3; have hx4 : WX0.cell? ⟨gX, 4, none⟩ = some (.slice none 0 0) := (bc BX.out 4).trans rfl; have hf4 := bf BX.out 4; have hx5 : WX0.cell? ⟨gX, 5, none⟩ = some (.slice none 0 0) := (bc BX.out 5).trans rfl; have hf5 := bf BX.out 5; have hy0 : WX0.cell? ⟨gB, 0, none⟩ = some (.int .i64 m) := (bc BB.out 0).trans rfl; have hy1 : WX0.cell? ⟨gB, 1, none⟩ = some (.int .i64 st) := (bc BB.out 1).trans rfl; have hy2 : WX0.cell? ⟨gB, 2, none⟩ = some (.slice A2 l2.length c2) := (bc BB.out 2).trans rfl; have hy3 : WX0.cell? ⟨gB, 3, none⟩ = some (.slice A3 l3.length c3) := (bc BB.out 3).trans rfl; have hy4 : WX0.cell? ⟨gB, 4, none⟩ = some (.slice A4 l4.length c4) := (bc BB.out 4).trans rfl; have hy5 : WX0.cell? ⟨gB, 5, none⟩ = some (.slice A5 l5.length c5) := (bc BB.out 5).trans rfl) | ((with_reducible refine gate_store (t := 2) (p := 9) rfl ?_); refine store_event (t := 2) (p := 9) (v := ?vo_1) (w1 := World.setCell WX0 ⟨gX, 1, none⟩ (.int .i64 st)) ?hg ?ho ?hn ?hr ?_; (case ho => rfl); (case hg => rfl); (case hn => rfl); (case hr => first | (go_simp; done) | (go_simp; rfl)); intro WX1 hw; have n0_ : AZ (Below w.heap.size w WX1) := ⟨by rw [hw]; exact pS HB.out GX.out⟩; have n1_ : AZ (WX1.heap[gB]? = some (.cells #[.int .i64 m, .int .i64 st, .slice A2 l2.length c2, .slice A3 l3.length c3, .slice A4 l4.length c4, .slice A5 l5.length c5] 39 (0, 0))) := ⟨by rw [hw]; exact (Below.heap_setCell _ _ _ _ NB.out).trans BB.out⟩; have n2_ : AZ (WX1.heap[gZ]? = some (.cells cZ 27 (0, 0))) := ⟨by rw [hw]; exact (Below.heap_setCell _ _ _ _ NZ.out).trans BZ.out⟩; have n3_ : AZ (N0 ≤ WX1.heap.size) := ⟨by rw [hw, World.size_setCell]; exact SZ.out⟩; have n4_ : AZ (WX1.heap[gX]? = some (.cells #[(.int .i64 m), (.int .i64 st), (.slice none 0 0), (.slice none 0 0), (.slice none 0 0), (.slice none 0 0)] 27 (0, 0))) := ⟨by rw [hw]; exact blk_put BX.out 1 _ rfl⟩; clear HB BB BZ SZ BX hw; clear hx0 hf0 hy0 hx1 hf1 hy1 hx2 hf2 hy2 hx3 hf3 hy3 hx4 hf4 hy4 hx5 hf5 hy5; have HB := n0_; have BB := n1_; have BZ := n2_; have SZ := n3_; have BX := n4_; clear n0_ n1_ n2_ n3_ n4_; have hx0 : WX1.cell? ⟨gX, 0, none⟩ = some (.int .i64 m) := (bc BX.out 0).trans rfl; have hf0 := bf BX.out 0; have hx1 : WX1.cell? ⟨gX, 1, none⟩ = some (.int .i64 st) := (bc BX.out 1).trans rfl; have hf1 := bf BX.out 1; have hx2 : WX1.cell? ⟨gX, 2, none⟩ = some (.slice none 0 0) := (bc BX.out 2).trans rfl; have hf2 := bf BX.out 2; have hx3 : WX1.cell? ⟨gX, 3, none⟩ = some (.slice none 0 0) := (bc BX.out 3).trans rfl; have hf3 := bf BX.out 3; have hx4 : WX1.cell? ⟨gX, 4, none⟩ = some (.slice none 0 0) := (bc BX.out 4).trans rfl; have hf4 := bf BX.out 4; have hx5 : WX1.cell? ⟨gX, 5, none⟩ = some (.slice none 0 0) := (bc BX.out 5).trans rfl; have hf5 := bf BX.out 5; have hy0 : WX1.cell? ⟨gB, 0, none⟩ = some (.int .i64 m) := (bc BB.out 0).trans rfl; have hy1 : WX1.cell? ⟨gB, 1, none⟩ = some (.int .i64 st) := (bc BB.out 1).trans rfl; have hy2 : WX1.cell? ⟨gB, 2, none⟩ = some (.slice A2 l2.length c2) := (bc BB.out 2).trans rfl; have hy3 : WX1.cell? ⟨gB, 3, none⟩ = some (.slice A3 l3.length c3) := (bc BB.out 3).trans rfl; have hy4 : WX1.cell? ⟨gB, 4, none⟩ = some (.slice A4 l4.length c4) := (bc BB.out 4).trans rfl; have hy5 : WX1.cell? ⟨gB, 5, none⟩ = some (.slice A5 l5.length c5) := (bc BB.out 5).trans rfl) | ((with_reducible refine gate_store (t := 22) (p := 13) rfl ?_); refine store_event (t := 22) (p := 13) (v := ?vo_2) (w1 := World.setCell WC0 ⟨gX, 2, none⟩ (.slice a0_ r2.length b0_)) ?hg ?ho ?hn ?hr ?_; (case ho => rfl); (case hg => rfl); (case hn => rfl); (case hr => first | (go_simp; done) | (go_simp; rfl)); intro WX2 hw; have n0_ : AZ (Below w.heap.size w WX2) := ⟨by rw [hw]; exact pS HB.out GX.out⟩; have n1_ : AZ (WX2.heap[gB]? = some (.cells #[.int .i64 m, .int .i64 st, .slice A2 l2.length c2, .slice A3 l3.length c3, .slice A4 l4.length c4, .slice A5 l5.length c5] 39 (0, 0))) := ⟨by rw [hw]; exact (Below.heap_setCell _ _ _ _ NB.out).trans BB.out⟩; have n2_ : AZ (WX2.heap[gZ]? = some (.cells cZ 27 (0, 0))) := ⟨by rw [hw]; exact (Below.heap_setCell _ _ _ _ NZ.out).trans BZ.out⟩; have n3_ : AZ (N1 ≤ WX2.heap.size) := ⟨by rw [hw, World.size_setCell]; exact SZ.out⟩; have n4_ : AZ (Kd.bool.R 4 WX2 w.heap.size (fun k => N0 ≤ k ∧ k < N1) (.slice a0_ r2.length b0_) r2) := ⟨by rw [hw]; exact Kd.R_set HA.out BX.out (by decide) 2 _⟩; have n5_ : AZ (WX2.heap[gX]? = some (.cells #[(.int .i64 m), (.int .i64 st), (.slice a0_ r2.length b0_), (.slice none 0 0), (.slice none 0 0), (.slice none 0 0)] 27 (0, 0))) := ⟨by rw [hw]; exact blk_put BX.out 2 _ rfl⟩; clear HB BB BZ SZ HA BX hw; clear hx0 hf0 hy0 hx1 hf1 hy1 hx2 hf2 hy2 hx3 hf3 hy3 hx4 hf4 hy4 hx5 hf5 hy5; have HB := n0_; have BB := n1_; have BZ := n2_; have SZ := n3_; have HA := n4_; have BX := n5_; clear n0_ n1_ n2_ n3_ n4_ n5_; have hx0 : WX2.cell? ⟨gX, 0, none⟩ = some (.int .i64 m) := (bc BX.out 0).trans rfl; have hf0 := bf BX.out 0; have hx1 : WX2.cell? ⟨gX, 1, none⟩ = some (.int .i64 st) := (bc BX.out 1).trans rfl; have hf1 := bf BX.out 1; have hx2 : WX2.cell? ⟨gX, 2, none⟩ = some (.slice a0_ r2.length b0_) := (bc BX.out 2).trans rfl; have hf2 := bf BX.out 2; have hx3 : WX2.cell? ⟨gX, 3, none⟩ = some (.slice none 0 0) := (bc BX.out 3).trans rfl; have hf3 := bf BX.out 3; have hx4 : WX2.cell? ⟨gX, 4, none⟩ = some (.slice none 0 0) := (bc BX.out 4).trans rfl; have hf4 := bf BX.out 4; have hx5 : WX2.cell? ⟨gX, 5, none⟩ = some (.slice none 0 0) := (bc BX.out 5).trans rfl; have hf5 := bf BX.out 5; have hy0 : WX2.cell? ⟨gB, 0, none⟩ = some (.int .i64 m) := (bc BB.out 0).trans rfl; have hy1 : WX2.cell? ⟨gB, 1, none⟩ = some (.int .i64 st) := (bc BB.out 1).trans rfl; have hy2 : WX2.cell? ⟨gB, 2, none⟩ = some (.slice A2 l2.length c2) := (bc BB.out 2).trans rfl; have hy3 : WX2.cell? ⟨gB, 3, none⟩ = some (.slice A3 l3.length c3) := (bc BB.out 3).trans rfl; have hy4 : WX2.cell? ⟨gB, 4, none⟩ = some (.slice A4 l4.length c4) := (bc BB.out 4).trans rfl; have hy5 : WX2.cell? ⟨gB, 5, none⟩ = some (.slice A5 l5.length c5) := (bc BB.out 5).trans rfl) | ((with_reducible refine gate_store (t := 23) (p := 17) rfl ?_); refine store_event (t := 23) (p := 17) (v := ?vo_3) (w1 := World.setCell WC1 ⟨gX, 3, none⟩ (.slice a1_ r3.length b1_)) ?hg ?ho ?hn ?hr ?_; (case ho => rfl); (case hg => rfl); (case hn => rfl); (case hr => first | (go_simp; done) | (go_simp; rfl)); intro WX3 hw; have n0_ : AZ (Below w.heap.size w WX3) := ⟨by rw [hw]; exact pS HB.out GX.out⟩; have n1_ : AZ (WX3.heap[gB]? = some (.cells #[.int .i64 m, .int .i64 st, .slice A2 l2.length c2, .slice A3 l3.length c3, .slice A4 l4.length c4, .slice A5 l5.length c5] 39 (0, 0))) := ⟨by rw [hw]; exact (Below.heap_setCell _ _ _ _ NB.out).trans BB.out⟩; have n2_ : AZ (WX3.heap[gZ]? = some (.cells cZ 27 (0, 0))) := ⟨by rw [hw]; exact (Below.heap_setCell _ _ _ _ NZ.out).trans BZ.out⟩; have n3_ : AZ (N2 ≤ WX3.heap.size) := ⟨by rw [hw, World.size_setCell]; exact SZ.out⟩; have n4_ : AZ (Kd.bool.R 4 WX3 w.heap.size (fun k => N0 ≤ k ∧ k < N1) (.slice a0_ r2.length b0_) r2) := ⟨by rw [hw]; exact Kd.R_set HA.out BX.out (by decide) 3 _⟩; have n5_ : AZ (Kd.S (Kd.slice 47 k47) 48 WX3 w.heap.size (fun k => N1 ≤ k ∧ k < N2) (.slice a1_ r3.length b1_) r3) := ⟨by rw [hw]; exact Kd.S_set HC.out BX.out (by decide) 3 _⟩; have n6_ : AZ (WX3.heap[gX]? = some (.cells #[(.int .i64 m), (.int .i64 st), (.slice a0_ r2.length b0_), (.slice a1_ r3.length b1_), (.slice none 0 0), (.slice none 0 0)] 27 (0, 0))) := ⟨by rw [hw]; exact blk_put BX.out 3 _ rfl⟩; clear HB BB BZ SZ HA HC BX hw; clear hx0 hf0 hy0 hx1 hf1 hy1 hx2 hf2 hy2 hx3 hf3 hy3 hx4 hf4 hy4 hx5 hf5 hy5; have HB := n0_; have BB := n1_; have BZ := n2_; have SZ := n3_; have HA := n4_; have HC := n5_; have BX := n6_; clear n0_ n1_ n2_ n3_ n4_ n5_ n6_; have hx0 : WX3.cell? ⟨gX, 0, none⟩ = some (.int .i64 m) := (bc BX.out 0).trans rfl; have hf0 := bf BX.out 0; have hx1 : WX3.cell? ⟨gX, 1, none⟩ = some (.int .i64 st) := (bc BX.out 1).trans rfl; have hf1 := bf BX.out 1; have hx2 : WX3.cell? ⟨gX, 2, none⟩ = some (.slice a0_ r2.length b0_) := (bc BX.out 2).trans rfl; have hf2 := bf BX.out 2; have hx3 : WX3.cell? ⟨gX, 3, none⟩ = some (.slice a1_ r3.length b1_) := (bc BX.out 3).trans rfl; have hf3 := bf BX.out 3; have hx4 : WX3.cell? ⟨gX, 4, none⟩ = some (.slice none 0 0) := (bc BX.out 4).trans rfl; have hf4 := bf BX.out 4; have hx5 : WX3.cell? ⟨gX, 5, none⟩ = some (.slice none 0 0) := (bc BX.out 5).trans rfl; have hf5 := bf BX.out 5; have hy0 : WX3.cell? ⟨gB, 0, none⟩ = some (.int .i64 m) := (bc BB.out 0).trans rfl; have hy1 : WX3.cell? ⟨gB, 1, none⟩ = some (.int .i64 st) := (bc BB.out 1).trans rfl; have hy2 : WX3.cell? ⟨gB, 2, none⟩ = some (.slice A2 l2.length c2) := (bc BB.out 2).trans rfl; have hy3 : WX3.cell? ⟨gB, 3, none⟩ = some (.slice A3 l3.length c3) := (bc BB.out 3).trans rfl; have hy4 : WX3.cell? ⟨gB, 4, none⟩ = some (.slice A4 l4.length c4) := (bc BB.out 4).trans rfl; have hy5 : WX3.cell? ⟨gB, 5, none⟩ = some (.slice A5 l5.length c5) := (bc BB.out 5).trans rfl) | ((with_reducible refine gate_store (t := 24) (p := 21) rfl ?_); refine store_event (t := 24) (p := 21) (v := ?vo_4) (w1 := World.setCell WC2 ⟨gX, 4, none⟩ (.slice a2_ r4.length b2_)) ?hg ?ho ?hn ?hr ?_; (case ho => rfl); (case hg => rfl); (case hn => rfl); (case hr => first | (go_simp; done) | (go_simp; rfl)); intro WX4 hw; have n0_ : AZ (Below w.heap.size w WX4) := ⟨by rw [hw]; exact pS HB.out GX.out⟩; have n1_ : AZ (WX4.heap[gB]? = some (.cells #[.int .i64 m, .int .i64 st, .slice A2 l2.length c2, .slice A3 l3.length c3, .slice A4 l4.length c4, .slice A5 l5.length c5] 39 (0, 0))) := ⟨by rw [hw]; exact (Below.heap_setCell _ _ _ _ NB.out).trans BB.out⟩; have n2_ : AZ (WX4.heap[gZ]? = some (.cells cZ 27 (0, 0))) := ⟨by rw [hw]; exact (Below.heap_setCell _ _ _ _ NZ.out).trans BZ.out⟩; have n3_ : AZ (N3 ≤ WX4.heap.size) := ⟨by rw [hw, World.size_setCell]; exact SZ.out⟩; have n4_ : AZ (Kd.bool.R 4 WX4 w.heap.size (fun k => N0 ≤ k ∧ k < N1) (.slice a0_ r2.length b0_) r2) := ⟨by rw [hw]; exact Kd.R_set HA.out BX.out (by decide) 4 _⟩; have n5_ : AZ (Kd.S (Kd.slice 47 k47) 48 WX4 w.heap.size (fun k => N1 ≤ k ∧ k < N2) (.slice a1_ r3.length b1_) r3) := ⟨by rw [hw]; exact Kd.S_set HC.out BX.out (by decide) 4 _⟩; have n6_ : AZ (Kd.S (sliceS 49 (Kd.slice 2 (Kd.int .i64))) 25 WX4 w.heap.size (fun k => N2 ≤ k ∧ k < N3) (.slice a2_ r4.length b2_) r4) := ⟨by rw [hw]; exact Kd.S_set HR.out BX.out (by decide) 4 _⟩; have n7_ : AZ (WX4.heap[gX]? = some (.cells #[(.int .i64 m), (.int .i64 st), (.slice a0_ r2.length b0_), (.slice a1_ r3.length b1_), (.slice a2_ r4.length b2_), (.slice none 0 0)] 27 (0, 0))) := ⟨by rw [hw]; exact blk_put BX.out 4 _ rfl⟩; clear HB BB BZ SZ HA HC HR BX hw; clear hx0 hf0 hy0 hx1 hf1 hy1 hx2 hf2 hy2 hx3 hf3 hy3 hx4 hf4 hy4 hx5 hf5 hy5; have HB := n0_; have BB := n1_; have BZ := n2_; have SZ := n3_; have HA := n4_; have HC := n5_; have HR := n6_; have BX := n7_; clear n0_ n1_ n2_ n3_ n4_ n5_ n6_ n7_; have hx0 : WX4.cell? ⟨gX, 0, none⟩ = some (.int .i64 m) := (bc BX.out 0).trans rfl; have hf0 := bf BX.out 0; have hx1 : WX4.cell? ⟨gX, 1, none⟩ = some (.int .i64 st) := (bc BX.out 1).trans rfl; have hf1 := bf BX.out 1; have hx2 : WX4.cell? ⟨gX, 2, none⟩ = some (.slice a0_ r2.length b0_) := (bc BX.out 2).trans rfl; have hf2 := bf BX.out 2; have hx3 : WX4.cell? ⟨gX, 3, none⟩ = some (.slice a1_ r3.length b1_) := (bc BX.out 3).trans rfl; have hf3 := bf BX.out 3; have hx4 : WX4.cell? ⟨gX, 4, none⟩ = some (.slice a2_ r4.length b2_) := (bc BX.out 4).trans rfl; have hf4 := bf BX.out 4; have hx5 : WX4.cell? ⟨gX, 5, none⟩ = some (.slice none 0 0) := (bc BX.out 5).trans rfl; have hf5 := bf BX.out 5; have hy0 : WX4.cell? ⟨gB, 0, none⟩ = some (.int .i64 m) := (bc BB.out 0).trans rfl; have hy1 : WX4.cell? ⟨gB, 1, none⟩ = some (.int .i64 st) := (bc BB.out 1).trans rfl; have hy2 : WX4.cell? ⟨gB, 2, none⟩ = some (.slice A2 l2.length c2) := (bc BB.out 2).trans rfl; have hy3 : WX4.cell? ⟨gB, 3, none⟩ = some (.slice A3 l3.length c3) := (bc BB.out 3).trans rfl; have hy4 : WX4.cell? ⟨gB, 4, none⟩ = some (.slice A4 l4.length c4) := (bc BB.out 4).trans rfl; have hy5 : WX4.cell? ⟨gB, 5, none⟩ = some (.slice A5 l5.length c5) := (bc BB.out 5).trans rfl) | ((with_reducible refine gate_store (t := 25) (p := 25) rfl ?_); refine store_event (t := 25) (p := 25) (v := ?vo_5) (w1 := World.setCell WC3 ⟨gX, 5, none⟩ (.slice a3_ r5.length b3_)) ?hg ?ho ?hn ?hr ?_; (case ho => rfl); (case hg => rfl); (case hn => rfl); (case hr => first | (go_simp; done) | (go_simp; rfl)); intro WX5 hw; have n0_ : AZ (Below w.heap.size w WX5) := ⟨by rw [hw]; exact pS HB.out GX.out⟩; have n1_ : AZ (WX5.heap[gB]? = some (.cells #[.int .i64 m, .int .i64 st, .slice A2 l2.length c2, .slice A3 l3.length c3, .slice A4 l4.length c4, .slice A5 l5.length c5] 39 (0, 0))) := ⟨by rw [hw]; exact (Below.heap_setCell _ _ _ _ NB.out).trans BB.out⟩; have n2_ : AZ (WX5.heap[gZ]? = some (.cells cZ 27 (0, 0))) := ⟨by rw [hw]; exact (Below.heap_setCell _ _ _ _ NZ.out).trans BZ.out⟩; have n3_ : AZ (N4 ≤ WX5.heap.size) := ⟨by rw [hw, World.size_setCell]; exact SZ.out⟩; have n4_ : AZ (Kd.bool.R 4 WX5 w.heap.size (fun k => N0 ≤ k ∧ k < N1) (.slice a0_ r2.length b0_) r2) := ⟨by rw [hw]; exact Kd.R_set HA.out BX.out (by decide) 5 _⟩; have n5_ : AZ (Kd.S (Kd.slice 47 k47) 48 WX5 w.heap.size (fun k => N1 ≤ k ∧ k < N2) (.slice a1_ r3.length b1_) r3) := ⟨by rw [hw]; exact Kd.S_set HC.out BX.out (by decide) 5 _⟩; have n6_ : AZ (Kd.S (sliceS 49 (Kd.slice 2 (Kd.int .i64))) 25 WX5 w.heap.size (fun k => N2 ≤ k ∧ k < N3) (.slice a2_ r4.length b2_) r4) := ⟨by rw [hw]; exact Kd.S_set HR.out BX.out (by decide) 5 _⟩; have n7_ : AZ (Kd.S (Kd.slice 2 (Kd.int .i64)) 49 WX5 w.heap.size (fun k => N3 ≤ k ∧ k < N4) (.slice a3_ r5.length b3_) r5) := ⟨by rw [hw]; exact Kd.S_set HI.out BX.out (by decide) 5 _⟩; have n8_ : AZ (WX5.heap[gX]? = some (.cells #[(.int .i64 m), (.int .i64 st), (.slice a0_ r2.length b0_), (.slice a1_ r3.length b1_), (.slice a2_ r4.length b2_), (.slice a3_ r5.length b3_)] 27 (0, 0))) := ⟨by rw [hw]; exact blk_put BX.out 5 _ rfl⟩; clear HB BB BZ SZ HA HC HR HI BX hw; clear hx0 hf0 hy0 hx1 hf1 hy1 hx2 hf2 hy2 hx3 hf3 hy3 hx4 hf4 hy4 hx5 hf5 hy5; have HB := n0_; have BB := n1_; have BZ := n2_; have SZ := n3_; have HA := n4_; have HC := n5_; have HR := n6_; have HI := n7_; have BX := n8_; clear n0_ n1_ n2_ n3_ n4_ n5_ n6_ n7_ n8_; have hx0 : WX5.cell? ⟨gX, 0, none⟩ = some (.int .i64 m) := (bc BX.out 0).trans rfl; have hf0 := bf BX.out 0; have hx1 : WX5.cell? ⟨gX, 1, none⟩ = some (.int .i64 st) := (bc BX.out 1).trans rfl; have hf1 := bf BX.out 1; have hx2 : WX5.cell? ⟨gX, 2, none⟩ = some (.slice a0_ r2.length b0_) := (bc BX.out 2).trans rfl; have hf2 := bf BX.out 2; have hx3 : WX5.cell? ⟨gX, 3, none⟩ = some (.slice a1_ r3.length b1_) := (bc BX.out 3).trans rfl; have hf3 := bf BX.out 3; have hx4 : WX5.cell? ⟨gX, 4, none⟩ = some (.slice a2_ r4.length b2_) := (bc BX.out 4).trans rfl; have hf4 := bf BX.out 4; have hx5 : WX5.cell? ⟨gX, 5, none⟩ = some (.slice a3_ r5.length b3_) := (bc BX.out 5).trans rfl; have hf5 := bf BX.out 5; have hy0 : WX5.cell? ⟨gB, 0, none⟩ = some (.int .i64 m) := (bc BB.out 0).trans rfl; have hy1 : WX5.cell? ⟨gB, 1, none⟩ = some (.int .i64 st) := (bc BB.out 1).trans rfl; have hy2 : WX5.cell? ⟨gB, 2, none⟩ = some (.slice A2 l2.length c2) := (bc BB.out 2).trans rfl; have hy3 : WX5.cell? ⟨gB, 3, none⟩ = some (.slice A3 l3.length c3) := (bc BB.out 3).trans rfl; have hy4 : WX5.cell? ⟨gB, 4, none⟩ = some (.slice A4 l4.length c4) := (bc BB.out 4).trans rfl; have hy5 : WX5.cell? ⟨gB, 5, none⟩ = some (.slice A5 l5.length c5) := (bc BB.out 5).trans rfl) | ((with_reducible refine gate_callee (f := 72) rfl ?_); refine goesL_ (some 12) rfl rfl Try.func72 (by kernel_rfl) rfl #[.slice A2 l2.length c2] rfl (by (try simp only [List.map_toArray, List.map_cons, List.map_nil]); first | done | rfl) ?_; refine (laws_toBoolS.calls k _ _ l2 r2 _ (Kd.C_below C2.out HB.out) D2.out E2.out).mono ?_; rintro e WC0 ⟨vA, rfl, hr, hb⟩; refine ⟨_, rfl, ?_⟩; obtain ⟨N1, hN⟩ : ∃ n, n = WC0.heap.size := ⟨_, rfl⟩; have m_ : AZ (Kd.bool.R 4 WC0 w.heap.size (fun k => N0 ≤ k ∧ k < N1) vA r2) := ⟨Kd.R_lower (Kd.R_mono (Kd.R_bound hr) (fun k hk => ⟨Nat.le_trans SZ.out hk.2.1, by rw [hN]; exact hk.2.2.1⟩)) (pZ HB.out)⟩; have sh_ := Kd.R_slice m_.out; have z_ := AZ.mk (Nat.le_of_eq hN); have LE0 := AZ.mk (show N0 ≤ N1 from Nat.le_trans SZ.out (by rw [hN]; exact hb.size)); have n0_ := AZ.mk (pT HB.out hb); have n1_ := AZ.mk (bb_ BB.out hb); have n2_ := AZ.mk (bb_ BZ.out hb); have n3_ := AZ.mk (bb_ BX.out hb); clear HB BB BZ BX SZ hr hb hN; have HB := n0_; have BB := n1_; have BZ := n2_; have BX := n3_; clear n0_ n1_ n2_ n3_; have SZ := z_; have HA := m_; clear z_ m_; clear hx0 hf0 hy0 hx1 hf1 hy1 hx2 hf2 hy2 hx3 hf3 hy3 hx4 hf4 hy4 hx5 hf5 hy5; obtain ⟨a0_, b0_, rfl⟩ := sh_; have hx0 : WC0.cell? ⟨gX, 0, none⟩ = some (.int .i64 m) := (bc BX.out 0).trans rfl; have hf0 := bf BX.out 0; have hx1 : WC0.cell? ⟨gX, 1, none⟩ = some (.int .i64 st) := (bc BX.out 1).trans rfl; have hf1 := bf BX.out 1; have hx2 : WC0.cell? ⟨gX, 2, none⟩ = some (.slice none 0 0) := (bc BX.out 2).trans rfl; have hf2 := bf BX.out 2; have hx3 : WC0.cell? ⟨gX, 3, none⟩ = some (.slice none 0 0) := (bc BX.out 3).trans rfl; have hf3 := bf BX.out 3; have hx4 : WC0.cell? ⟨gX, 4, none⟩ = some (.slice none 0 0) := (bc BX.out 4).trans rfl; have hf4 := bf BX.out 4; have hx5 : WC0.cell? ⟨gX, 5, none⟩ = some (.slice none 0 0) := (bc BX.out 5).trans rfl; have hf5 := bf BX.out 5; have hy0 : WC0.cell? ⟨gB, 0, none⟩ = some (.int .i64 m) := (bc BB.out 0).trans rfl; have hy1 : WC0.cell? ⟨gB, 1, none⟩ = some (.int .i64 st) := (bc BB.out 1).trans rfl; have hy2 : WC0.cell? ⟨gB, 2, none⟩ = some (.slice A2 l2.length c2) := (bc BB.out 2).trans rfl; have hy3 : WC0.cell? ⟨gB, 3, none⟩ = some (.slice A3 l3.length c3) := (bc BB.out 3).trans rfl; have hy4 : WC0.cell? ⟨gB, 4, none⟩ = some (.slice A4 l4.length c4) := (bc BB.out 4).trans rfl; have hy5 : WC0.cell? ⟨gB, 5, none⟩ = some (.slice A5 l5.length c5) := (bc BB.out 5).trans rfl) | ((with_reducible refine gate_callee (f := 73) rfl ?_); refine goesL_ (some 16) rfl rfl Try.func73 (by kernel_rfl) rfl #[.slice A3 l3.length c3] rfl (by (try simp only [List.map_toArray, List.map_cons, List.map_nil]); first | done | rfl) ?_; refine (laws_toPushSS.calls k _ _ l3 r3 _ (Kd.C_below C3.out HB.out) D3.out E3.out).mono ?_; rintro e WC1 ⟨vC, rfl, hr, hb⟩; refine ⟨_, rfl, ?_⟩; obtain ⟨N2, hN⟩ : ∃ n, n = WC1.heap.size := ⟨_, rfl⟩; have m_ : AZ (Kd.S (Kd.slice 47 k47) 48 WC1 w.heap.size (fun k => N1 ≤ k ∧ k < N2) vC r3) := ⟨Kd.S_lower (Kd.S_mono (Kd.S_bound hr) (fun k hk => ⟨Nat.le_trans SZ.out hk.2.1, by rw [hN]; exact hk.2.2.1⟩)) (pZ HB.out)⟩; have sh_ := Kd.S_slice m_.out; have z_ := AZ.mk (Nat.le_of_eq hN); have LE1 := AZ.mk (show N1 ≤ N2 from Nat.le_trans SZ.out (by rw [hN]; exact hb.size)); have n0_ := AZ.mk (pT HB.out hb); have n1_ := AZ.mk (bb_ BB.out hb); have n2_ := AZ.mk (bb_ BZ.out hb); have n3_ := AZ.mk (bb_ BX.out hb); have n4_ := AZ.mk (Kd.R_grown HA.out (grown_of_below hb none) (fun _ _ e => by cases e)); clear HB BB BZ BX HA SZ hr hb hN; have HB := n0_; have BB := n1_; have BZ := n2_; have BX := n3_; have HA := n4_; clear n0_ n1_ n2_ n3_ n4_; have SZ := z_; have HC := m_; clear z_ m_; clear hx0 hf0 hy0 hx1 hf1 hy1 hx2 hf2 hy2 hx3 hf3 hy3 hx4 hf4 hy4 hx5 hf5 hy5; obtain ⟨a1_, b1_, rfl⟩ := sh_; have hx0 : WC1.cell? ⟨gX, 0, none⟩ = some (.int .i64 m) := (bc BX.out 0).trans rfl; have hf0 := bf BX.out 0; have hx1 : WC1.cell? ⟨gX, 1, none⟩ = some (.int .i64 st) := (bc BX.out 1).trans rfl; have hf1 := bf BX.out 1; have hx2 : WC1.cell? ⟨gX, 2, none⟩ = some (.slice a0_ r2.length b0_) := (bc BX.out 2).trans rfl; have hf2 := bf BX.out 2; have hx3 : WC1.cell? ⟨gX, 3, none⟩ = some (.slice none 0 0) := (bc BX.out 3).trans rfl; have hf3 := bf BX.out 3; have hx4 : WC1.cell? ⟨gX, 4, none⟩ = some (.slice none 0 0) := (bc BX.out 4).trans rfl; have hf4 := bf BX.out 4; have hx5 : WC1.cell? ⟨gX, 5, none⟩ = some (.slice none 0 0) := (bc BX.out 5).trans rfl; have hf5 := bf BX.out 5; have hy0 : WC1.cell? ⟨gB, 0, none⟩ = some (.int .i64 m) := (bc BB.out 0).trans rfl; have hy1 : WC1.cell? ⟨gB, 1, none⟩ = some (.int .i64 st) := (bc BB.out 1).trans rfl; have hy2 : WC1.cell? ⟨gB, 2, none⟩ = some (.slice A2 l2.length c2) := (bc BB.out 2).trans rfl; have hy3 : WC1.cell? ⟨gB, 3, none⟩ = some (.slice A3 l3.length c3) := (bc BB.out 3).trans rfl; have hy4 : WC1.cell? ⟨gB, 4, none⟩ = some (.slice A4 l4.length c4) := (bc BB.out 4).trans rfl; have hy5 : WC1.cell? ⟨gB, 5, none⟩ = some (.slice A5 l5.length c5) := (bc BB.out 5).trans rfl) | ((with_reducible refine gate_callee (f := 74) rfl ?_); refine goesL_ (some 20) rfl rfl Try.func74 (by kernel_rfl) rfl #[.slice A4 l4.length c4] rfl (by (try simp only [List.map_toArray, List.map_cons, List.map_nil]); first | done | rfl) ?_; refine (toInt64SSS_calls k _ _ l4 r4 _ (Kd.C_below C4.out HB.out) D4.out E4.out).mono ?_; rintro e WC2 ⟨vR, rfl, hr, hb⟩; refine ⟨_, rfl, ?_⟩; obtain ⟨N3, hN⟩ : ∃ n, n = WC2.heap.size := ⟨_, rfl⟩; have m_ : AZ (Kd.S (sliceS 49 (Kd.slice 2 (Kd.int .i64))) 25 WC2 w.heap.size (fun k => N2 ≤ k ∧ k < N3) vR r4) := ⟨Kd.S_lower (Kd.S_mono (Kd.S_bound hr) (fun k hk => ⟨Nat.le_trans SZ.out hk.2.1, by rw [hN]; exact hk.2.2.1⟩)) (pZ HB.out)⟩; have sh_ := Kd.S_slice m_.out; have z_ := AZ.mk (Nat.le_of_eq hN); have LE2 := AZ.mk (show N2 ≤ N3 from Nat.le_trans SZ.out (by rw [hN]; exact hb.size)); have n0_ := AZ.mk (pT HB.out hb); have n1_ := AZ.mk (bb_ BB.out hb); have n2_ := AZ.mk (bb_ BZ.out hb); have n3_ := AZ.mk (bb_ BX.out hb); have n4_ := AZ.mk (Kd.R_grown HA.out (grown_of_below hb none) (fun _ _ e => by cases e)); have n5_ := AZ.mk (Kd.S_grown HC.out (grown_of_below hb none) (fun _ _ e => by cases e)); clear HB BB BZ BX HA HC SZ hr hb hN; have HB := n0_; have BB := n1_; have BZ := n2_; have BX := n3_; have HA := n4_; have HC := n5_; clear n0_ n1_ n2_ n3_ n4_ n5_; have SZ := z_; have HR := m_; clear z_ m_; clear hx0 hf0 hy0 hx1 hf1 hy1 hx2 hf2 hy2 hx3 hf3 hy3 hx4 hf4 hy4 hx5 hf5 hy5; obtain ⟨a2_, b2_, rfl⟩ := sh_; have hx0 : WC2.cell? ⟨gX, 0, none⟩ = some (.int .i64 m) := (bc BX.out 0).trans rfl; have hf0 := bf BX.out 0; have hx1 : WC2.cell? ⟨gX, 1, none⟩ = some (.int .i64 st) := (bc BX.out 1).trans rfl; have hf1 := bf BX.out 1; have hx2 : WC2.cell? ⟨gX, 2, none⟩ = some (.slice a0_ r2.length b0_) := (bc BX.out 2).trans rfl; have hf2 := bf BX.out 2; have hx3 : WC2.cell? ⟨gX, 3, none⟩ = some (.slice a1_ r3.length b1_) := (bc BX.out 3).trans rfl; have hf3 := bf BX.out 3; have hx4 : WC2.cell? ⟨gX, 4, none⟩ = some (.slice none 0 0) := (bc BX.out 4).trans rfl; have hf4 := bf BX.out 4; have hx5 : WC2.cell? ⟨gX, 5, none⟩ = some (.slice none 0 0) := (bc BX.out 5).trans rfl; have hf5 := bf BX.out 5; have hy0 : WC2.cell? ⟨gB, 0, none⟩ = some (.int .i64 m) := (bc BB.out 0).trans rfl; have hy1 : WC2.cell? ⟨gB, 1, none⟩ = some (.int .i64 st) := (bc BB.out 1).trans rfl; have hy2 : WC2.cell? ⟨gB, 2, none⟩ = some (.slice A2 l2.length c2) := (bc BB.out 2).trans rfl; have hy3 : WC2.cell? ⟨gB, 3, none⟩ = some (.slice A3 l3.length c3) := (bc BB.out 3).trans rfl; have hy4 : WC2.cell? ⟨gB, 4, none⟩ = some (.slice A4 l4.length c4) := (bc BB.out 4).trans rfl; have hy5 : WC2.cell? ⟨gB, 5, none⟩ = some (.slice A5 l5.length c5) := (bc BB.out 5).trans rfl) | ((with_reducible refine gate_callee (f := 75) rfl ?_); refine goesL_ (some 24) rfl rfl Try.func75 (by kernel_rfl) rfl #[.slice A5 l5.length c5] rfl (by (try simp only [List.map_toArray, List.map_cons, List.map_nil]); first | done | rfl) ?_; refine (laws_toInt64SS.calls k _ _ l5 r5 _ (Kd.C_below C5.out HB.out) D5.out E5.out).mono ?_; rintro e WC3 ⟨vI, rfl, hr, hb⟩; refine ⟨_, rfl, ?_⟩; obtain ⟨N4, hN⟩ : ∃ n, n = WC3.heap.size := ⟨_, rfl⟩; have m_ : AZ (Kd.S (Kd.slice 2 (Kd.int .i64)) 49 WC3 w.heap.size (fun k => N3 ≤ k ∧ k < N4) vI r5) := ⟨Kd.S_lower (Kd.S_mono (Kd.S_bound hr) (fun k hk => ⟨Nat.le_trans SZ.out hk.2.1, by rw [hN]; exact hk.2.2.1⟩)) (pZ HB.out)⟩; have sh_ := Kd.S_slice m_.out; have z_ := AZ.mk (Nat.le_of_eq hN); have LE3 := AZ.mk (show N3 ≤ N4 from Nat.le_trans SZ.out (by rw [hN]; exact hb.size)); have n0_ := AZ.mk (pT HB.out hb); have n1_ := AZ.mk (bb_ BB.out hb); have n2_ := AZ.mk (bb_ BZ.out hb); have n3_ := AZ.mk (bb_ BX.out hb); have n4_ := AZ.mk (Kd.R_grown HA.out (grown_of_below hb none) (fun _ _ e => by cases e)); have n5_ := AZ.mk (Kd.S_grown HC.out (grown_of_below hb none) (fun _ _ e => by cases e)); have n6_ := AZ.mk (Kd.S_grown HR.out (grown_of_below hb none) (fun _ _ e => by cases e)); clear HB BB BZ BX HA HC HR SZ hr hb hN; have HB := n0_; have BB := n1_; have BZ := n2_; have BX := n3_; have HA := n4_; have HC := n5_; have HR := n6_; clear n0_ n1_ n2_ n3_ n4_ n5_ n6_; have SZ := z_; have HI := m_; clear z_ m_; clear hx0 hf0 hy0 hx1 hf1 hy1 hx2 hf2 hy2 hx3 hf3 hy3 hx4 hf4 hy4 hx5 hf5 hy5; obtain ⟨a3_, b3_, rfl⟩ := sh_; have hx0 : WC3.cell? ⟨gX, 0, none⟩ = some (.int .i64 m) := (bc BX.out 0).trans rfl; have hf0 := bf BX.out 0; have hx1 : WC3.cell? ⟨gX, 1, none⟩ = some (.int .i64 st) := (bc BX.out 1).trans rfl; have hf1 := bf BX.out 1; have hx2 : WC3.cell? ⟨gX, 2, none⟩ = some (.slice a0_ r2.length b0_) := (bc BX.out 2).trans rfl; have hf2 := bf BX.out 2; have hx3 : WC3.cell? ⟨gX, 3, none⟩ = some (.slice a1_ r3.length b1_) := (bc BX.out 3).trans rfl; have hf3 := bf BX.out 3; have hx4 : WC3.cell? ⟨gX, 4, none⟩ = some (.slice a2_ r4.length b2_) := (bc BX.out 4).trans rfl; have hf4 := bf BX.out 4; have hx5 : WC3.cell? ⟨gX, 5, none⟩ = some (.slice none 0 0) := (bc BX.out 5).trans rfl; have hf5 := bf BX.out 5; have hy0 : WC3.cell? ⟨gB, 0, none⟩ = some (.int .i64 m) := (bc BB.out 0).trans rfl; have hy1 : WC3.cell? ⟨gB, 1, none⟩ = some (.int .i64 st) := (bc BB.out 1).trans rfl; have hy2 : WC3.cell? ⟨gB, 2, none⟩ = some (.slice A2 l2.length c2) := (bc BB.out 2).trans rfl; have hy3 : WC3.cell? ⟨gB, 3, none⟩ = some (.slice A3 l3.length c3) := (bc BB.out 3).trans rfl; have hy4 : WC3.cell? ⟨gB, 4, none⟩ = some (.slice A4 l4.length c4) := (bc BB.out 4).trans rfl; have hy5 : WC3.cell? ⟨gB, 5, none⟩ = some (.slice A5 l5.length c5) := (bc BB.out 5).trans rfl) | ((with_reducible refine gate_ (.load 27 (.tmp 3)) rfl ?_); refine load27 rfl 3 rfl (g := gX) rfl BX.out rfl ?_) | ((with_reducible refine gate_ (.store 27 (.tmp 2) (.tmp 26)) rfl ?_); refine store27 rfl 2 26 rfl (g := gZ) (old := cZ) (cs := cellsI m st (.slice a0_ r2.length b0_) (.slice a1_ r3.length b1_) (.slice a2_ r4.length b2_) (.slice a3_ r5.length b3_)) rfl rfl BZ.out rfl rfl (cells4_one _ _ _ _ _ _ _ _ _ _ _ _ _ _) ?_; intro w9 hbx hB hfar))
  refine bodyPost_ret (results_cell_row rfl _ _ gZ 27 (cellsI m st (.slice a0_ r2.length b0_) (.slice a1_ r3.length b1_) (.slice a2_ r4.length b2_) (.slice a3_ r5.length b3_)) (0, 0) _ rfl hbx Try.underlying27 rfl (by kernel_rfl)) rfl ?_
  exact ⟨_, _, _, _, rfl, own_far' (own_four LE1.out LE2.out HA.out HC.out HR.out HI.out) BZ.out hfar, hB _ _ HB.out GZ.out⟩
end Go.Proofs.Ytepkfigcnnfoaaa.P
namespace Go.Proofs.Ytepkfigcnnfoaaa.P
open Go.RowKit Go.Proofs.YtepkfigcnnfoaaaW.PrintWords Go.Proofs.YtepkfigcnnfoaaaW.PrintLast Go.Proofs.YtepkfigcnnfoaaaW.PrintMore
attribute [local go_sem] max2_int min2_int max_two min_two max_three min_three max_four min_four
set_option linter.unusedVariables false
set_option linter.unusedSimpArgs false
def impl_within.f (a0 : Int) (a1 : Int) (a2 : Int) : Option (Bool) := if a0 ≥ a1 then (some (decide (a0 ≤ a2))) else (some false)
set_option maxHeartbeats 8000000 in
set_option maxRecDepth 100000 in
theorem impl_within.calls (a0 : Int) (a1 : Int) (a2 : Int) (r : Bool) (w : World) (h : impl_within.f a0 a1 a2 = some r) :
  Calls Try.prog 54 #[.int .i64 a0, .int .i64 a1, .int .i64 a2] w fun e w' => e = .returned (.bool r) ∧ Drawn0 w w' := by
 have H : (if a0 ≥ a1 then (some (decide (a0 ≤ a2))) else (some false)) = some r := h
 clear h
 by_cases c4 : a0 ≥ a1
 ·rw [if_pos c4] at H
  have c4b0 : decide (a1 ≤ a0) = true := decide_eq_true c4
  clear c4
  obtain rfl := Option.some.inj H
  go_enter Try.func54, Try.ntmps54
  go_wp2
  go_ret
  exact ⟨by first | rfl | (simp; done) | (simp [*]; done), by repeat (first | exact Drawn0.refl _ | apply Drawn0.step)⟩
 rw [if_neg c4] at H
 have c4b0 : decide (a1 ≤ a0) = false := decide_eq_false c4
 clear c4
 obtain rfl := Option.some.inj H
 go_enter Try.func54, Try.ntmps54
 go_wp2
 go_ret
 exact ⟨by first | rfl | (simp; done) | (simp [*]; done), by repeat (first | exact Drawn0.refl _ | apply Drawn0.step)⟩
end Go.Proofs.Ytepkfigcnnfoaaa.P
namespace Go.Proofs.Ytepkfigcnnfoaaa.P
open Go.RowKit Go.Proofs.YtepkfigcnnfoaaaW.PrintWords Go.Proofs.YtepkfigcnnfoaaaW.PrintLast Go.Proofs.YtepkfigcnnfoaaaW.PrintMore
attribute [local go_sem] max2_int min2_int max_two min_two max_three min_three max_four min_four
set_option linter.unusedVariables false
set_option linter.unusedSimpArgs false
def impl_size_bool.f (l0 : List Bool) : Option (Int) := some (l0.length : Int)
set_option maxHeartbeats 8000000 in
set_option maxRecDepth 100000 in
theorem impl_size_bool.calls (A0 : Option Addr) (c0 : Nat) (l0 : List Bool) (r : Int) (w : World) (hr0 : Kd.C Kd.bool w A0 l0.length l0) (hc0 : l0.length ≤ c0) (h : impl_size_bool.f l0 = some r) :
  Calls Try.prog 97 #[.slice A0 l0.length c0] w fun e w' => e = .returned (.int .i64 r) ∧ Drawn0 w w' := by
 have HR0 := AZ.mk hr0
 have HC0 := AZ.mk hc0
 clear hr0 hc0
 have H : (some (l0.length : Int)) = some r := h
 clear h
 obtain rfl := Option.some.inj H
 go_enter Try.func97, Try.ntmps97
 go_wp2
 go_ret
 exact ⟨by first | rfl | (simp; done) | (simp [*]; done), by repeat (first | exact Drawn0.refl _ | apply Drawn0.step)⟩
end Go.Proofs.Ytepkfigcnnfoaaa.P
namespace Go.Proofs.Ytepkfigcnnfoaaa.P
open Go.RowKit Go.Proofs.YtepkfigcnnfoaaaW.PrintWords Go.Proofs.YtepkfigcnnfoaaaW.PrintLast Go.Proofs.YtepkfigcnnfoaaaW.PrintMore
attribute [local go_sem] max2_int min2_int max_two min_two max_three min_three max_four min_four
set_option linter.unusedVariables false
set_option linter.unusedSimpArgs false
def impl_Checker_isState.f (a0_0 : Int) (a0_1 : Int) (l0_2 : List Bool) (l0_3 : List (List (S47))) (l0_4 : List (List (List Int))) (l0_5 : List (List Int)) (a1 : Int) : Option (Bool) := (impl_size_bool.f l0_2).bind fun t469 => ((impl_within.f a1 0 (wrap64 (t469 - 1))).bind fun t470 => (some t470))
set_option maxHeartbeats 8000000 in
set_option maxRecDepth 100000 in
theorem impl_Checker_isState.calls (a0_0 : Int) (a0_1 : Int) (A0_2 : Option Addr) (c0_2 : Nat) (l0_2 : List Bool) (A0_3 : Option Addr) (c0_3 : Nat) (l0_3 : List (List (S47))) (A0_4 : Option Addr) (c0_4 : Nat) (l0_4 : List (List (List Int))) (A0_5 : Option Addr) (c0_5 : Nat) (l0_5 : List (List Int)) (a1 : Int) (r : Bool) (w : World) (hr0_2 : Kd.C Kd.bool w A0_2 l0_2.length l0_2) (hc0_2 : l0_2.length ≤ c0_2) (hr0_3 : Kd.C (Kd.slice 47 k47) w A0_3 l0_3.length l0_3) (hc0_3 : l0_3.length ≤ c0_3) (hr0_4 : Kd.C (Kd.slice 49 (Kd.slice 2 (Kd.int .i64))) w A0_4 l0_4.length l0_4) (hc0_4 : l0_4.length ≤ c0_4) (hr0_5 : Kd.C (Kd.slice 2 (Kd.int .i64)) w A0_5 l0_5.length l0_5) (hc0_5 : l0_5.length ≤ c0_5) (h : impl_Checker_isState.f a0_0 a0_1 l0_2 l0_3 l0_4 l0_5 a1 = some r) :
  Calls Try.prog 98 #[.agg #[.int .i64 a0_0, .int .i64 a0_1, .slice A0_2 l0_2.length c0_2, .slice A0_3 l0_3.length c0_3, .slice A0_4 l0_4.length c0_4, .slice A0_5 l0_5.length c0_5], .int .i64 a1] w fun e w' => e = .returned (.bool r) ∧ Below w.heap.size w w' := by
 have hu27 := Try.underlying27
 have HR0_2 := AZ.mk hr0_2
 have HC0_2 := AZ.mk hc0_2
 clear hr0_2 hc0_2
 have HR0_3 := AZ.mk hr0_3
 have HC0_3 := AZ.mk hc0_3
 clear hr0_3 hc0_3
 have HR0_4 := AZ.mk hr0_4
 have HC0_4 := AZ.mk hc0_4
 clear hr0_4 hc0_4
 have HR0_5 := AZ.mk hr0_5
 have HC0_5 := AZ.mk hc0_5
 clear hr0_5 hc0_5
 have HB := AZ.mk (Below.refl w.heap.size w)
 have H : ((impl_size_bool.f l0_2).bind fun t469 => ((impl_within.f a1 0 (wrap64 (t469 - 1))).bind fun t470 => (some t470))) = some r := h
 clear h
 replace H := Option.bind_eq_some_iff.mp H
 obtain ⟨t469, A30, H⟩ := H
 replace H : ((impl_within.f a1 0 (wrap64 (t469 - 1))).bind fun t470 => (some t470)) = some r := H
 have A3 := AZ.mk A30
 clear A30
 replace H := Option.bind_eq_some_iff.mp H
 obtain ⟨t470, A40, H⟩ := H
 replace H : (some t470) = some r := H
 have A4 := AZ.mk A40
 clear A40
 obtain rfl := Option.some.inj H
 go_enter Try.func98, Try.ntmps98
 go_wp2_with (first | ((with_reducible refine gate_dst (N := 2) rfl ?_); refine box_event ?hg (N := 2) ?hd (cs := #[.int .i64 a0_0, .int .i64 a0_1, .slice A0_2 l0_2.length c0_2, .slice A0_3 l0_3.length c0_3, .slice A0_4 l0_4.length c0_4, .slice A0_5 l0_5.length c0_5]) (t := 27) ?hr ?_; (case hd => rfl); (case hg => rfl); (case hr => first | (go_simp; done) | (go_simp; rfl)); intro gb468 hg w5 hbox hb; have n0_ := AZ.mk (pT (by repeat (first | (with_reducible first | exact HB.out | apply pA | apply pN | apply pD) | exact HB.out)) hb); have n1_ := AZ.mk (hbox); have n2_ := AZ.mk ((by rw [hg]; exact (pZ (by repeat (first | (with_reducible first | exact HB.out | apply pA | apply pN | apply pD) | exact HB.out))) : w.heap.size ≤ gb468)); have n3_ := AZ.mk ((by rw [hg]; exact (pZ (by repeat (first | (with_reducible first | exact HB.out | apply pA | apply pN | apply pD) | exact HB.out))) : w.heap.size ≤ gb468)); clear HB; have HB := n0_; have BK468 := n1_; have GW468 := n2_; have GE468 := n3_; clear n0_ n1_ n2_ n3_; clear hb hbox hg; obtain ⟨hcz6_0, hcz6_1, hcz6_2, hcz6_3, hcz6_4, hcz6_5⟩ := c6 BK468.out; obtain ⟨hfz6_0, hfz6_1, hfz6_2, hfz6_3, hfz6_4, hfz6_5⟩ := f6 BK468.out) | ((with_reducible refine gate_callee (f := 97) rfl ?_); refine goesL_ (some 8) rfl rfl Try.func97 (by kernel_rfl) rfl #[.slice A0_2 l0_2.length c0_2] rfl (by (try simp only [List.map_toArray, List.map_cons, List.map_nil]); first | done | rfl | (simp only [List.length_drop, List.length_take]; rfl)) ?_; (with_reducible refine (impl_size_bool.calls _ _ l0_2 t469 _ ?side1 ?side2 A3.out).mono ?_); (case side1 => repeat (first | exact (Kd.C_below HR0_2.out HB.out) | (with_reducible refine Kd.C_alloc ?_ _) | (with_reducible refine Kd.C_drewN ?_ _) | (with_reducible refine Kd.C_drew ?_))); (case side2 => exact HC0_2.out); rintro e w' ⟨rfl, ⟨nd, rfl⟩⟩; refine ⟨_, rfl, ?_⟩) | ((with_reducible refine gate_callee (f := 54) rfl ?_); refine goesL_ (some 10) rfl rfl Try.func54 (by kernel_rfl) rfl #[.int .i64 a1, .int .i64 0, .int .i64 (wrap64 (t469 - 1))] rfl (by (try simp only [List.map_toArray, List.map_cons, List.map_nil]); first | done | rfl | (simp only [List.length_drop, List.length_take]; rfl)) ?_; (with_reducible refine (impl_within.calls a1 0 (wrap64 (t469 - 1)) t470 _ A4.out).mono ?_); rintro e w' ⟨rfl, ⟨nd, rfl⟩⟩; refine ⟨_, rfl, ?_⟩))
 go_ret
 exact ⟨by first | rfl | (simp [errW_none, errW_some] <;> rfl) | (simp [*, errW_none, errW_some] <;> rfl), by repeat (first | (with_reducible first | exact HB.out | apply pA | apply pN | apply pD | refine pS ?_ GE468.out) | exact HB.out)⟩
end Go.Proofs.Ytepkfigcnnfoaaa.P
namespace Go.Proofs.Ytepkfigcnnfoaaa.P
open Go.RowKit Go.Proofs.YtepkfigcnnfoaaaW.PrintWords Go.Proofs.YtepkfigcnnfoaaaW.PrintLast Go.Proofs.YtepkfigcnnfoaaaW.PrintMore
attribute [local go_sem] max2_int min2_int max_two min_two max_three min_three max_four min_four
set_option linter.unusedVariables false
set_option linter.unusedSimpArgs false
def impl_size_Limpl_Push.f (l0 : List (List (S47))) : Option (Int) := some (l0.length : Int)
set_option maxHeartbeats 8000000 in
set_option maxRecDepth 100000 in
theorem impl_size_Limpl_Push.calls (A0 : Option Addr) (c0 : Nat) (l0 : List (List (S47))) (r : Int) (w : World) (hr0 : Kd.C (Kd.slice 47 k47) w A0 l0.length l0) (hc0 : l0.length ≤ c0) (h : impl_size_Limpl_Push.f l0 = some r) :
  Calls Try.prog 99 #[.slice A0 l0.length c0] w fun e w' => e = .returned (.int .i64 r) ∧ Drawn0 w w' := by
 have HR0 := AZ.mk hr0
 have HC0 := AZ.mk hc0
 clear hr0 hc0
 have H : (some (l0.length : Int)) = some r := h
 clear h
 obtain rfl := Option.some.inj H
 go_enter Try.func99, Try.ntmps99
 go_wp2
 go_ret
 exact ⟨by first | rfl | (simp; done) | (simp [*]; done), by repeat (first | exact Drawn0.refl _ | apply Drawn0.step)⟩
end Go.Proofs.Ytepkfigcnnfoaaa.P
namespace Go.Proofs.Ytepkfigcnnfoaaa.P
open Go.RowKit Go.Proofs.YtepkfigcnnfoaaaW.PrintWords Go.Proofs.YtepkfigcnnfoaaaW.PrintLast Go.Proofs.YtepkfigcnnfoaaaW.PrintMore
attribute [local go_sem] max2_int min2_int max_two min_two max_three min_three max_four min_four
set_option linter.unusedVariables false
set_option linter.unusedSimpArgs false
def impl_size_LLint64.f (l0 : List (List (List Int))) : Option (Int) := some (l0.length : Int)
set_option maxHeartbeats 8000000 in
set_option maxRecDepth 100000 in
theorem impl_size_LLint64.calls (A0 : Option Addr) (c0 : Nat) (l0 : List (List (List Int))) (r : Int) (w : World) (hr0 : Kd.C (Kd.slice 49 (Kd.slice 2 (Kd.int .i64))) w A0 l0.length l0) (hc0 : l0.length ≤ c0) (h : impl_size_LLint64.f l0 = some r) :
  Calls Try.prog 100 #[.slice A0 l0.length c0] w fun e w' => e = .returned (.int .i64 r) ∧ Drawn0 w w' := by
 have HR0 := AZ.mk hr0
 have HC0 := AZ.mk hc0
 clear hr0 hc0
 have H : (some (l0.length : Int)) = some r := h
 clear h
 obtain rfl := Option.some.inj H
 go_enter Try.func100, Try.ntmps100
 go_wp2
 go_ret
 exact ⟨by first | rfl | (simp; done) | (simp [*]; done), by repeat (first | exact Drawn0.refl _ | apply Drawn0.step)⟩
end Go.Proofs.Ytepkfigcnnfoaaa.P
namespace Go.Proofs.Ytepkfigcnnfoaaa.P
open Go.RowKit Go.Proofs.YtepkfigcnnfoaaaW.PrintWords Go.Proofs.YtepkfigcnnfoaaaW.PrintLast Go.Proofs.YtepkfigcnnfoaaaW.PrintMore
attribute [local go_sem] max2_int min2_int max_two min_two max_three min_three max_four min_four
set_option linter.unusedVariables false
set_option linter.unusedSimpArgs false
def impl_size_Lint64.f (l0 : List (List Int)) : Option (Int) := some (l0.length : Int)
set_option maxHeartbeats 8000000 in
set_option maxRecDepth 100000 in
theorem impl_size_Lint64.calls (A0 : Option Addr) (c0 : Nat) (l0 : List (List Int)) (r : Int) (w : World) (hr0 : Kd.C (Kd.slice 2 (Kd.int .i64)) w A0 l0.length l0) (hc0 : l0.length ≤ c0) (h : impl_size_Lint64.f l0 = some r) :
  Calls Try.prog 101 #[.slice A0 l0.length c0] w fun e w' => e = .returned (.int .i64 r) ∧ Drawn0 w w' := by
 have HR0 := AZ.mk hr0
 have HC0 := AZ.mk hc0
 clear hr0 hc0
 have H : (some (l0.length : Int)) = some r := h
 clear h
 obtain rfl := Option.some.inj H
 go_enter Try.func101, Try.ntmps101
 go_wp2
 go_ret
 exact ⟨by first | rfl | (simp; done) | (simp [*]; done), by repeat (first | exact Drawn0.refl _ | apply Drawn0.step)⟩
end Go.Proofs.Ytepkfigcnnfoaaa.P
namespace Go.Proofs.Ytepkfigcnnfoaaa.P
open Go.RowKit Go.Proofs.YtepkfigcnnfoaaaW.PrintWords Go.Proofs.YtepkfigcnnfoaaaW.PrintLast Go.Proofs.YtepkfigcnnfoaaaW.PrintMore
attribute [local go_sem] max2_int min2_int max_two min_two max_three min_three max_four min_four
set_option linter.unusedVariables false
set_option linter.unusedSimpArgs false
def impl_Checker_isMark.f (a0_0 : Int) (a0_1 : Int) (l0_2 : List Bool) (l0_3 : List (List (S47))) (l0_4 : List (List (List Int))) (l0_5 : List (List Int)) (a1 : Int) : Option (Bool) := (impl_within.f a1 0 (wrap64 (a0_0 - 1))).bind fun t472 => (some t472)
set_option maxHeartbeats 8000000 in
set_option maxRecDepth 100000 in
theorem impl_Checker_isMark.calls (a0_0 : Int) (a0_1 : Int) (A0_2 : Option Addr) (c0_2 : Nat) (l0_2 : List Bool) (A0_3 : Option Addr) (c0_3 : Nat) (l0_3 : List (List (S47))) (A0_4 : Option Addr) (c0_4 : Nat) (l0_4 : List (List (List Int))) (A0_5 : Option Addr) (c0_5 : Nat) (l0_5 : List (List Int)) (a1 : Int) (r : Bool) (w : World) (hr0_2 : Kd.C Kd.bool w A0_2 l0_2.length l0_2) (hc0_2 : l0_2.length ≤ c0_2) (hr0_3 : Kd.C (Kd.slice 47 k47) w A0_3 l0_3.length l0_3) (hc0_3 : l0_3.length ≤ c0_3) (hr0_4 : Kd.C (Kd.slice 49 (Kd.slice 2 (Kd.int .i64))) w A0_4 l0_4.length l0_4) (hc0_4 : l0_4.length ≤ c0_4) (hr0_5 : Kd.C (Kd.slice 2 (Kd.int .i64)) w A0_5 l0_5.length l0_5) (hc0_5 : l0_5.length ≤ c0_5) (h : impl_Checker_isMark.f a0_0 a0_1 l0_2 l0_3 l0_4 l0_5 a1 = some r) :
  Calls Try.prog 106 #[.agg #[.int .i64 a0_0, .int .i64 a0_1, .slice A0_2 l0_2.length c0_2, .slice A0_3 l0_3.length c0_3, .slice A0_4 l0_4.length c0_4, .slice A0_5 l0_5.length c0_5], .int .i64 a1] w fun e w' => e = .returned (.bool r) ∧ Below w.heap.size w w' := by
 have hu27 := Try.underlying27
 have HR0_2 := AZ.mk hr0_2
 have HC0_2 := AZ.mk hc0_2
 clear hr0_2 hc0_2
 have HR0_3 := AZ.mk hr0_3
 have HC0_3 := AZ.mk hc0_3
 clear hr0_3 hc0_3
 have HR0_4 := AZ.mk hr0_4
 have HC0_4 := AZ.mk hc0_4
 clear hr0_4 hc0_4
 have HR0_5 := AZ.mk hr0_5
 have HC0_5 := AZ.mk hc0_5
 clear hr0_5 hc0_5
 have HB := AZ.mk (Below.refl w.heap.size w)
 have H : ((impl_within.f a1 0 (wrap64 (a0_0 - 1))).bind fun t472 => (some t472)) = some r := h
 clear h
 replace H := Option.bind_eq_some_iff.mp H
 obtain ⟨t472, A30, H⟩ := H
 replace H : (some t472) = some r := H
 have A3 := AZ.mk A30
 clear A30
 obtain rfl := Option.some.inj H
 go_enter Try.func106, Try.ntmps106
 go_wp2_with (first | ((with_reducible refine gate_dst (N := 2) rfl ?_); refine box_event ?hg (N := 2) ?hd (cs := #[.int .i64 a0_0, .int .i64 a0_1, .slice A0_2 l0_2.length c0_2, .slice A0_3 l0_3.length c0_3, .slice A0_4 l0_4.length c0_4, .slice A0_5 l0_5.length c0_5]) (t := 27) ?hr ?_; (case hd => rfl); (case hg => rfl); (case hr => first | (go_simp; done) | (go_simp; rfl)); intro gb471 hg w4 hbox hb; have n0_ := AZ.mk (pT (by repeat (first | (with_reducible first | exact HB.out | apply pA | apply pN | apply pD) | exact HB.out)) hb); have n1_ := AZ.mk (hbox); have n2_ := AZ.mk ((by rw [hg]; exact (pZ (by repeat (first | (with_reducible first | exact HB.out | apply pA | apply pN | apply pD) | exact HB.out))) : w.heap.size ≤ gb471)); have n3_ := AZ.mk ((by rw [hg]; exact (pZ (by repeat (first | (with_reducible first | exact HB.out | apply pA | apply pN | apply pD) | exact HB.out))) : w.heap.size ≤ gb471)); clear HB; have HB := n0_; have BK471 := n1_; have GW471 := n2_; have GE471 := n3_; clear n0_ n1_ n2_ n3_; clear hb hbox hg; obtain ⟨hcz5_0, hcz5_1, hcz5_2, hcz5_3, hcz5_4, hcz5_5⟩ := c6 BK471.out; obtain ⟨hfz5_0, hfz5_1, hfz5_2, hfz5_3, hfz5_4, hfz5_5⟩ := f6 BK471.out) | ((with_reducible refine gate_callee (f := 54) rfl ?_); refine goesL_ (some 9) rfl rfl Try.func54 (by kernel_rfl) rfl #[.int .i64 a1, .int .i64 0, .int .i64 (wrap64 (a0_0 - 1))] rfl (by (try simp only [List.map_toArray, List.map_cons, List.map_nil]); first | done | rfl | (simp only [List.length_drop, List.length_take]; rfl)) ?_; (with_reducible refine (impl_within.calls a1 0 (wrap64 (a0_0 - 1)) t472 _ A3.out).mono ?_); rintro e w' ⟨rfl, ⟨nd, rfl⟩⟩; refine ⟨_, rfl, ?_⟩))
 go_ret
 exact ⟨by first | rfl | (simp [errW_none, errW_some] <;> rfl) | (simp [*, errW_none, errW_some] <;> rfl), by repeat (first | (with_reducible first | exact HB.out | apply pA | apply pN | apply pD | refine pS ?_ GE471.out) | exact HB.out)⟩
end Go.Proofs.Ytepkfigcnnfoaaa.P
namespace Go.Proofs.Ytepkfigcnnfoaaa.P
open Go.RowKit Go.Proofs.YtepkfigcnnfoaaaW.PrintWords Go.Proofs.YtepkfigcnnfoaaaW.PrintLast Go.Proofs.YtepkfigcnnfoaaaW.PrintMore
attribute [local go_sem] max2_int min2_int max_two min_two max_three min_three max_four min_four
set_option linter.unusedVariables false
set_option linter.unusedSimpArgs false
def impl_size_int64.f (l0 : List Int) : Option (Int) := some (l0.length : Int)
set_option maxHeartbeats 8000000 in
set_option maxRecDepth 100000 in
theorem impl_size_int64.calls (A0 : Option Addr) (c0 : Nat) (l0 : List Int) (r : Int) (w : World) (hr0 : Kd.C (Kd.int .i64) w A0 l0.length l0) (hc0 : l0.length ≤ c0) (h : impl_size_int64.f l0 = some r) :
  Calls Try.prog 103 #[.slice A0 l0.length c0] w fun e w' => e = .returned (.int .i64 r) ∧ Drawn0 w w' := by
 have HR0 := AZ.mk hr0
 have HC0 := AZ.mk hc0
 clear hr0 hc0
 have H : (some (l0.length : Int)) = some r := h
 clear h
 obtain rfl := Option.some.inj H
 go_enter Try.func103, Try.ntmps103
 go_wp2
 go_ret
 exact ⟨by first | rfl | (simp; done) | (simp [*]; done), by repeat (first | exact Drawn0.refl _ | apply Drawn0.step)⟩
end Go.Proofs.Ytepkfigcnnfoaaa.P
namespace Go.Proofs.Ytepkfigcnnfoaaa.P
open Go.RowKit Go.Proofs.YtepkfigcnnfoaaaW.PrintWords Go.Proofs.YtepkfigcnnfoaaaW.PrintLast Go.Proofs.YtepkfigcnnfoaaaW.PrintMore
attribute [local go_sem] max2_int min2_int max_two min_two max_three min_three max_four min_four
set_option linter.unusedVariables false
set_option linter.unusedSimpArgs false
def impl_ValidChecker_1_1_c.f (a0 : Int) (a1_0 : Int) (a1_1 : Int) (l1_2 : List Bool) (l1_3 : List (List (S47))) (l1_4 : List (List (List Int))) (l1_5 : List (List Int)) : Option (Bool) := (impl_Checker_isState.f a1_0 a1_1 l1_2 l1_3 l1_4 l1_5 a0).bind fun t486 => (some (!t486))
set_option maxHeartbeats 8000000 in
set_option maxRecDepth 100000 in
theorem impl_ValidChecker_1_1_c.calls (a0 : Int) (g1_ : Nat) (a1_0 : Int) (a1_1 : Int) (A1_2 : Option Addr) (c1_2 : Nat) (l1_2 : List Bool) (A1_3 : Option Addr) (c1_3 : Nat) (l1_3 : List (List (S47))) (A1_4 : Option Addr) (c1_4 : Nat) (l1_4 : List (List (List Int))) (A1_5 : Option Addr) (c1_5 : Nat) (l1_5 : List (List Int)) (r : Bool) (w : World) (hr1_2 : Kd.C Kd.bool w A1_2 l1_2.length l1_2) (hc1_2 : l1_2.length ≤ c1_2) (hr1_3 : Kd.C (Kd.slice 47 k47) w A1_3 l1_3.length l1_3) (hc1_3 : l1_3.length ≤ c1_3) (hr1_4 : Kd.C (Kd.slice 49 (Kd.slice 2 (Kd.int .i64))) w A1_4 l1_4.length l1_4) (hc1_4 : l1_4.length ≤ c1_4) (hr1_5 : Kd.C (Kd.slice 2 (Kd.int .i64)) w A1_5 l1_5.length l1_5) (hc1_5 : l1_5.length ≤ c1_5) (hbk1_0 : w.heap[g1_]? = some (.cells #[.int .i64 a1_0, .int .i64 a1_1, .slice A1_2 l1_2.length c1_2, .slice A1_3 l1_3.length c1_3, .slice A1_4 l1_4.length c1_4, .slice A1_5 l1_5.length c1_5] 27 (0, 0))) (h : impl_ValidChecker_1_1_c.f a0 a1_0 a1_1 l1_2 l1_3 l1_4 l1_5 = some r) :
  Calls Try.prog 105 #[.int .i64 a0, .pointer (some ⟨g1_, 0, none⟩)] w fun e w' => e = .returned (.bool r) ∧ Below w.heap.size w w' := by
 have hu27 := Try.underlying27
 have HR1_2 := AZ.mk hr1_2
 have HC1_2 := AZ.mk hc1_2
 clear hr1_2 hc1_2
 have HR1_3 := AZ.mk hr1_3
 have HC1_3 := AZ.mk hc1_3
 clear hr1_3 hc1_3
 have HR1_4 := AZ.mk hr1_4
 have HC1_4 := AZ.mk hc1_4
 clear hr1_4 hc1_4
 have HR1_5 := AZ.mk hr1_5
 have HC1_5 := AZ.mk hc1_5
 clear hr1_5 hc1_5
 have BK1 := AZ.mk hbk1_0
 clear hbk1_0
 have HB := AZ.mk (Below.refl w.heap.size w)
 have H : ((impl_Checker_isState.f a1_0 a1_1 l1_2 l1_3 l1_4 l1_5 a0).bind fun t486 => (some (!t486))) = some r := h
 clear h
 replace H := Option.bind_eq_some_iff.mp H
 obtain ⟨t486, A30, H⟩ := H
 replace H : (some (!t486)) = some r := H
 have A3 := AZ.mk A30
 clear A30
 obtain rfl := Option.some.inj H
 obtain ⟨hcz4_0, hcz4_1, hcz4_2, hcz4_3, hcz4_4, hcz4_5⟩ := c6 BK1.out
 obtain ⟨hfz4_0, hfz4_1, hfz4_2, hfz4_3, hfz4_4, hfz4_5⟩ := f6 BK1.out
 go_enter Try.func105, Try.ntmps105
 go_wp2_with (first | ((with_reducible refine gate_callee (f := 98) rfl ?_); refine goesL_ (some 6) rfl rfl Try.func98 (by kernel_rfl) rfl #[.agg #[.int .i64 a1_0, .int .i64 a1_1, .slice A1_2 l1_2.length c1_2, .slice A1_3 l1_3.length c1_3, .slice A1_4 l1_4.length c1_4, .slice A1_5 l1_5.length c1_5], .int .i64 a0] rfl (by (try simp only [List.map_toArray, List.map_cons, List.map_nil]); first | done | rfl | (simp only [List.length_drop, List.length_take]; rfl)) ?_; (with_reducible refine (impl_Checker_isState.calls a1_0 a1_1 _ _ l1_2 _ _ l1_3 _ _ l1_4 _ _ l1_5 a0 t486 _ ?side1 ?side2 ?side3 ?side4 ?side5 ?side6 ?side7 ?side8 A3.out).mono ?_); (case side1 => repeat (first | exact HR1_2.out | (with_reducible refine Kd.C_alloc ?_ _) | (with_reducible refine Kd.C_drewN ?_ _) | (with_reducible refine Kd.C_drew ?_))); (case side2 => exact HC1_2.out); (case side3 => repeat (first | exact HR1_3.out | (with_reducible refine Kd.C_alloc ?_ _) | (with_reducible refine Kd.C_drewN ?_ _) | (with_reducible refine Kd.C_drew ?_))); (case side4 => exact HC1_3.out); (case side5 => repeat (first | exact HR1_4.out | (with_reducible refine Kd.C_alloc ?_ _) | (with_reducible refine Kd.C_drewN ?_ _) | (with_reducible refine Kd.C_drew ?_))); (case side6 => exact HC1_4.out); (case side7 => repeat (first | exact HR1_5.out | (with_reducible refine Kd.C_alloc ?_ _) | (with_reducible refine Kd.C_drewN ?_ _) | (with_reducible refine Kd.C_drew ?_))); (case side8 => exact HC1_5.out); rintro e w5 ⟨rfl, hb⟩; refine ⟨_, rfl, ?_⟩; have n0_ := AZ.mk (bb_ (g := g1_) (o := .cells #[.int .i64 a1_0, .int .i64 a1_1, .slice A1_2 l1_2.length c1_2, .slice A1_3 l1_3.length c1_3, .slice A1_4 l1_4.length c1_4, .slice A1_5 l1_5.length c1_5] 27 (0, 0)) (by (with_reducible repeat (first | refine bn_ ?_ _ | refine bd_ ?_ | refine ba_ ?_ _)); exact BK1.out) hb); have n1_ := AZ.mk (pT (by repeat (first | (with_reducible first | exact HB.out | apply pA | apply pN | apply pD | refine pS ?_ GE1.out) | exact HB.out)) hb); clear BK1; clear HB; have BK1 := n0_; have HB := n1_; clear n0_ n1_; (try clear hb); (try clear hb2); (try clear hk); (try clear hi)))
 go_ret
 exact ⟨by first | rfl | (simp [errW_none, errW_some] <;> rfl) | (simp [*, errW_none, errW_some] <;> rfl), by repeat (first | (with_reducible first | exact HB.out | apply pA | apply pN | apply pD | refine pS ?_ GE1.out) | exact HB.out)⟩
end Go.Proofs.Ytepkfigcnnfoaaa.P
namespace Go.Proofs.Ytepkfigcnnfoaaa.P
open Go.RowKit Go.Proofs.YtepkfigcnnfoaaaW.PrintWords Go.Proofs.YtepkfigcnnfoaaaW.PrintLast Go.Proofs.YtepkfigcnnfoaaaW.PrintMore
attribute [local go_sem] max2_int min2_int max_two min_two max_three min_three max_four min_four
set_option linter.unusedVariables false
set_option linter.unusedSimpArgs false
def slices_IndexFunc_Lint64_int64_at_impl_ValidChecker_1_1.l0 : Nat → List Int → Int → Int → Int → Int → List Bool → List (List (S47)) → List (List (List Int)) → List (List Int) → Option (Int)
 | 0, _, _, _, _, _, _, _, _, _ => none
 | k + 1, x0, x7, x8, x56000, x56001, x56002, x56003, x56004, x56005 => if x8 < x7 then (if 0 ≤ x8 then (if x8 < (x0.length : Int) then ((impl_ValidChecker_1_1_c.f (rd x0 x8) x56000 x56001 x56002 x56003 x56004 x56005).bind fun t486 => (if t486 = true then (some x8) else (slices_IndexFunc_Lint64_int64_at_impl_ValidChecker_1_1.l0 k x0 x7 (wrap64 (x8 + 1)) x56000 x56001 x56002 x56003 x56004 x56005))) else (none)) else (none)) else (some (-1))
def slices_IndexFunc_Lint64_int64_at_impl_ValidChecker_1_1.f (k : Nat) (l0 : List Int) (a1_0 : Int) (a1_1 : Int) (l1_2 : List Bool) (l1_3 : List (List (S47))) (l1_4 : List (List (List Int))) (l1_5 : List (List Int)) : Option (Int) := slices_IndexFunc_Lint64_int64_at_impl_ValidChecker_1_1.l0 k l0 (l0.length : Int) 0 a1_0 a1_1 l1_2 l1_3 l1_4 l1_5
set_option maxHeartbeats 8000000 in
set_option maxRecDepth 100000 in
theorem slices_IndexFunc_Lint64_int64_at_impl_ValidChecker_1_1.calls (k : Nat) (A0 : Option Addr) (c0 : Nat) (l0 : List Int) (g1_0_ : Nat) (a1_0 : Int) (a1_1 : Int) (A1_2 : Option Addr) (c1_2 : Nat) (l1_2 : List Bool) (A1_3 : Option Addr) (c1_3 : Nat) (l1_3 : List (List (S47))) (A1_4 : Option Addr) (c1_4 : Nat) (l1_4 : List (List (List Int))) (A1_5 : Option Addr) (c1_5 : Nat) (l1_5 : List (List Int)) (r : Int) (w : World) (hr0 : Kd.C (Kd.int .i64) w A0 l0.length l0) (hc0 : l0.length ≤ c0) (hr1_2 : Kd.C Kd.bool w A1_2 l1_2.length l1_2) (hc1_2 : l1_2.length ≤ c1_2) (hr1_3 : Kd.C (Kd.slice 47 k47) w A1_3 l1_3.length l1_3) (hc1_3 : l1_3.length ≤ c1_3) (hr1_4 : Kd.C (Kd.slice 49 (Kd.slice 2 (Kd.int .i64))) w A1_4 l1_4.length l1_4) (hc1_4 : l1_4.length ≤ c1_4) (hr1_5 : Kd.C (Kd.slice 2 (Kd.int .i64)) w A1_5 l1_5.length l1_5) (hc1_5 : l1_5.length ≤ c1_5) (hbk1_0 : w.heap[g1_0_]? = some (.cells #[.int .i64 a1_0, .int .i64 a1_1, .slice A1_2 l1_2.length c1_2, .slice A1_3 l1_3.length c1_3, .slice A1_4 l1_4.length c1_4, .slice A1_5 l1_5.length c1_5] 27 (0, 0))) (h : slices_IndexFunc_Lint64_int64_at_impl_ValidChecker_1_1.f k l0 a1_0 a1_1 l1_2 l1_3 l1_4 l1_5 = some r) :
  Calls Try.prog 117 #[.slice A0 l0.length c0, .func (.func 105) #[] #[.pointer (some ⟨g1_0_, 0, none⟩)]] w fun e w' => e = .returned (.int .i64 r) ∧ Below w.heap.size w w' := by
 have HR0 := AZ.mk hr0
 have HC0 := AZ.mk hc0
 clear hr0 hc0
 have HR1_2 := AZ.mk hr1_2
 have HC1_2 := AZ.mk hc1_2
 clear hr1_2 hc1_2
 have HR1_3 := AZ.mk hr1_3
 have HC1_3 := AZ.mk hc1_3
 clear hr1_3 hc1_3
 have HR1_4 := AZ.mk hr1_4
 have HC1_4 := AZ.mk hc1_4
 clear hr1_4 hc1_4
 have HR1_5 := AZ.mk hr1_5
 have HC1_5 := AZ.mk hc1_5
 clear hr1_5 hc1_5
 have BK55 := AZ.mk hbk1_0
 clear hbk1_0
 have HB := AZ.mk (Below.refl w.heap.size w)
 have H : (slices_IndexFunc_Lint64_int64_at_impl_ValidChecker_1_1.l0 k l0 (l0.length : Int) 0 a1_0 a1_1 l1_2 l1_3 l1_4 l1_5) = some r := h
 clear h
 have H' := AZ.mk H
 clear H
 go_enter Try.func117, Try.ntmps117
 go_wp2
 go_loopg [8] k (fun kq v8 w' => ∃ (x8_1 : Int), v8 = .int .i64 x8_1 ∧ AZ (slices_IndexFunc_Lint64_int64_at_impl_ValidChecker_1_1.l0 kq l0 (l0.length : Int) x8_1 a1_0 a1_1 l1_2 l1_3 l1_4 l1_5 = some r) ∧ AZ (kq ≤ k) ∧ AZ (w'.heap[g1_0_]? = some (.cells #[.int .i64 a1_0, .int .i64 a1_1, (.slice A1_2 l1_2.length c1_2), (.slice A1_3 l1_3.length c1_3), (.slice A1_4 l1_4.length c1_4), (.slice A1_5 l1_5.length c1_5)] 27 (0, 0))) ∧ AZ (Below w.heap.size w w'))
 case atStart => exact ⟨(0), (by first | rfl | (simp; done) | (simp [*]; done)), H', ⟨Nat.le_refl _⟩, ⟨by (with_reducible repeat (first | refine bn_ ?_ _ | refine bd_ ?_ | refine ba_ ?_ _)); exact BK55.out⟩, ⟨by repeat (first | (with_reducible first | exact HB.out | apply pA | apply pN | apply pD | refine pS ?_ GE55.out) | exact HB.out)⟩⟩
 case round =>
  clear H'
  try clear c1
  try clear p2
  obtain ⟨x8_1, rfl, HA, HK1, BK55, HB⟩ := hrel
  cases gk with
  | zero => exact absurd HA.out (by simp [slices_IndexFunc_Lint64_int64_at_impl_ValidChecker_1_1.l0])
  | succ k1 =>
   have H := HA.out
   clear HA
   simp only [slices_IndexFunc_Lint64_int64_at_impl_ValidChecker_1_1.l0] at H
   by_cases c3 : x8_1 < (l0.length : Int)
   rotate_left
   ·rw [if_neg c3] at H
    have c3b0 : decide (x8_1 < (l0.length : Int)) = false := decide_eq_false c3
    clear c3
    obtain rfl := Option.some.inj H
    go_wp2
    go_ret
    exact ⟨by first | rfl | (simp [errW_none, errW_some] <;> rfl) | (simp [*, errW_none, errW_some] <;> rfl), by repeat (first | (with_reducible first | exact HB.out | apply pA | apply pN | apply pD | refine pS ?_ GE55.out) | exact HB.out)⟩
   rw [if_pos c3] at H
   have c3b0 : decide (x8_1 < (l0.length : Int)) = true := decide_eq_true c3
   clear c3
   by_cases c4 : 0 ≤ x8_1
   rotate_left
   ·rw [if_neg c4] at H
    exact absurd H (by simp)
   rw [if_pos c4] at H
   have c4b0 : decide (0 ≤ x8_1) = true := decide_eq_true c4
   clear c4
   by_cases c5 : x8_1 < (l0.length : Int)
   rotate_left
   ·rw [if_neg c5] at H
    exact absurd H (by simp)
   rw [if_pos c5] at H
   have c5b0 : decide (x8_1 < (l0.length : Int)) = true := decide_eq_true c5
   clear c5
   replace H := Option.bind_eq_some_iff.mp H
   obtain ⟨t486, A60, H⟩ := H
   replace H : (if t486 = true then (some x8_1) else (slices_IndexFunc_Lint64_int64_at_impl_ValidChecker_1_1.l0 k1 l0 (l0.length : Int) (wrap64 (x8_1 + 1)) a1_0 a1_1 l1_2 l1_3 l1_4 l1_5)) = some r := H
   have A6 := AZ.mk A60
   clear A60
   by_cases c7 : t486 = true
   ·subst c7
    have H1 : (some x8_1) = some r := by rw [if_pos rfl] at H; exact H
    clear H
    have H := H1
    clear H1
    obtain rfl := Option.some.inj H
    have p485 : 0 ≤ (x8_1 : Int) := oT (by first | (with_reducible assumption) | assumption)
    have q485 : x8_1 < (l0.length : Int) := oT (by first | (with_reducible assumption) | assumption)
    obtain ⟨ad485, e485, hx485_0⟩ := Kd.at_int HR0.out x8_1 p485 q485
    cases e485
    replace hx485_0 := (HB.out.cell (World.block_lt_of_cell? w _ hx485_0)).trans hx485_0
    replace p485 := eq_true p485
    replace q485 := eq_true q485
    go_wp2_with (first | ((with_reducible refine gate_value (t := 11) rfl ?_); refine goesVL_ (some 16) rfl rfl Try.func105 (by kernel_rfl) rfl #[.int .i64 (rd l0 x8_1)] #[.int .i64 (rd l0 x8_1), .pointer (some ⟨g1_0_, 0, none⟩)] rfl (by rfl) (by (try simp only [List.map_toArray, List.map_cons, List.map_nil]); first | done | rfl | (simp only [List.length_drop, List.length_take]; rfl)) (by rfl) ?_; (with_reducible refine (impl_ValidChecker_1_1_c.calls (rd l0 x8_1) g1_0_ a1_0 a1_1 A1_2 c1_2 l1_2 A1_3 c1_3 l1_3 A1_4 c1_4 l1_4 A1_5 c1_5 l1_5 true _ ?side1 ?side2 ?side3 ?side4 ?side5 ?side6 ?side7 ?side8 ?side9 A6.out).mono ?_); (case side1 => repeat (first | exact (Kd.C_below HR1_2.out HB.out) | (with_reducible refine Kd.C_alloc ?_ _) | (with_reducible refine Kd.C_drewN ?_ _) | (with_reducible refine Kd.C_drew ?_))); (case side2 => exact HC1_2.out); (case side3 => repeat (first | exact (Kd.C_below HR1_3.out HB.out) | (with_reducible refine Kd.C_alloc ?_ _) | (with_reducible refine Kd.C_drewN ?_ _) | (with_reducible refine Kd.C_drew ?_))); (case side4 => exact HC1_3.out); (case side5 => repeat (first | exact (Kd.C_below HR1_4.out HB.out) | (with_reducible refine Kd.C_alloc ?_ _) | (with_reducible refine Kd.C_drewN ?_ _) | (with_reducible refine Kd.C_drew ?_))); (case side6 => exact HC1_4.out); (case side7 => repeat (first | exact (Kd.C_below HR1_5.out HB.out) | (with_reducible refine Kd.C_alloc ?_ _) | (with_reducible refine Kd.C_drewN ?_ _) | (with_reducible refine Kd.C_drew ?_))); (case side8 => exact HC1_5.out); (case side9 => exact (by (with_reducible repeat (first | refine bn_ ?_ _ | refine bd_ ?_ | refine ba_ ?_ _)); exact BK55.out)); rintro e w8 ⟨rfl, hb⟩; refine ⟨_, rfl, ?_⟩; have n0_ := AZ.mk (bb_ (g := g1_0_) (o := .cells #[.int .i64 a1_0, .int .i64 a1_1, .slice A1_2 l1_2.length c1_2, .slice A1_3 l1_3.length c1_3, .slice A1_4 l1_4.length c1_4, .slice A1_5 l1_5.length c1_5] 27 (0, 0)) (by (with_reducible repeat (first | refine bn_ ?_ _ | refine bd_ ?_ | refine ba_ ?_ _)); exact BK55.out) hb); have n1_ := AZ.mk (pT (by repeat (first | (with_reducible first | exact HB.out | apply pA | apply pN | apply pD | refine pS ?_ GE55.out) | exact HB.out)) hb); clear BK55; clear HB; have BK55 := n0_; have HB := n1_; clear n0_ n1_; (try clear hb); (try clear hb2); (try clear hk); (try clear hi)))
    go_ret
    exact ⟨by first | rfl | (simp [errW_none, errW_some] <;> rfl) | (simp [*, errW_none, errW_some] <;> rfl), by repeat (first | (with_reducible first | exact HB.out | apply pA | apply pN | apply pD | refine pS ?_ GE55.out) | exact HB.out)⟩
   replace c7 := Bool.eq_false_iff.mpr c7
   subst c7
   have H1 : (slices_IndexFunc_Lint64_int64_at_impl_ValidChecker_1_1.l0 k1 l0 (l0.length : Int) (wrap64 (x8_1 + 1)) a1_0 a1_1 l1_2 l1_3 l1_4 l1_5) = some r := by rw [if_neg (show ¬ (false = true) by decide)] at H; exact H
   clear H
   have H := H1
   clear H1
   have H' := AZ.mk H
   clear H
   have p485 : 0 ≤ (x8_1 : Int) := oT (by first | (with_reducible assumption) | assumption)
   have q485 : x8_1 < (l0.length : Int) := oT (by first | (with_reducible assumption) | assumption)
   obtain ⟨ad485, e485, hx485_0⟩ := Kd.at_int HR0.out x8_1 p485 q485
   cases e485
   replace hx485_0 := (HB.out.cell (World.block_lt_of_cell? w _ hx485_0)).trans hx485_0
   replace p485 := eq_true p485
   replace q485 := eq_true q485
   go_wp2_with (first | ((with_reducible refine gate_value (t := 11) rfl ?_); refine goesVL_ (some 16) rfl rfl Try.func105 (by kernel_rfl) rfl #[.int .i64 (rd l0 x8_1)] #[.int .i64 (rd l0 x8_1), .pointer (some ⟨g1_0_, 0, none⟩)] rfl (by rfl) (by (try simp only [List.map_toArray, List.map_cons, List.map_nil]); first | done | rfl | (simp only [List.length_drop, List.length_take]; rfl)) (by rfl) ?_; (with_reducible refine (impl_ValidChecker_1_1_c.calls (rd l0 x8_1) g1_0_ a1_0 a1_1 A1_2 c1_2 l1_2 A1_3 c1_3 l1_3 A1_4 c1_4 l1_4 A1_5 c1_5 l1_5 false _ ?side1 ?side2 ?side3 ?side4 ?side5 ?side6 ?side7 ?side8 ?side9 A6.out).mono ?_); (case side1 => repeat (first | exact (Kd.C_below HR1_2.out HB.out) | (with_reducible refine Kd.C_alloc ?_ _) | (with_reducible refine Kd.C_drewN ?_ _) | (with_reducible refine Kd.C_drew ?_))); (case side2 => exact HC1_2.out); (case side3 => repeat (first | exact (Kd.C_below HR1_3.out HB.out) | (with_reducible refine Kd.C_alloc ?_ _) | (with_reducible refine Kd.C_drewN ?_ _) | (with_reducible refine Kd.C_drew ?_))); (case side4 => exact HC1_3.out); (case side5 => repeat (first | exact (Kd.C_below HR1_4.out HB.out) | (with_reducible refine Kd.C_alloc ?_ _) | (with_reducible refine Kd.C_drewN ?_ _) | (with_reducible refine Kd.C_drew ?_))); (case side6 => exact HC1_4.out); (case side7 => repeat (first | exact (Kd.C_below HR1_5.out HB.out) | (with_reducible refine Kd.C_alloc ?_ _) | (with_reducible refine Kd.C_drewN ?_ _) | (with_reducible refine Kd.C_drew ?_))); (case side8 => exact HC1_5.out); (case side9 => exact (by (with_reducible repeat (first | refine bn_ ?_ _ | refine bd_ ?_ | refine ba_ ?_ _)); exact BK55.out)); rintro e w9 ⟨rfl, hb⟩; refine ⟨_, rfl, ?_⟩; have n0_ := AZ.mk (bb_ (g := g1_0_) (o := .cells #[.int .i64 a1_0, .int .i64 a1_1, .slice A1_2 l1_2.length c1_2, .slice A1_3 l1_3.length c1_3, .slice A1_4 l1_4.length c1_4, .slice A1_5 l1_5.length c1_5] 27 (0, 0)) (by (with_reducible repeat (first | refine bn_ ?_ _ | refine bd_ ?_ | refine ba_ ?_ _)); exact BK55.out) hb); have n1_ := AZ.mk (pT (by repeat (first | (with_reducible first | exact HB.out | apply pA | apply pN | apply pD | refine pS ?_ GE55.out) | exact HB.out)) hb); clear BK55; clear HB; have BK55 := n0_; have HB := n1_; clear n0_ n1_; (try clear hb); (try clear hb2); (try clear hk); (try clear hi)))
   go_roundg k1
   case measure => have := HK1.out; omega
   case rel => exact ⟨(wrap64 (x8_1 + 1)), (by first | rfl | (simp; done) | (simp [*]; done)), H', ⟨by have := HK1.out; omega⟩, ⟨by (with_reducible repeat (first | refine bn_ ?_ _ | refine bd_ ?_ | refine ba_ ?_ _)); exact BK55.out⟩, ⟨by repeat (first | (with_reducible first | exact HB.out | apply pA | apply pN | apply pD | refine pS ?_ GE55.out) | exact HB.out)⟩⟩
end Go.Proofs.Ytepkfigcnnfoaaa.P
namespace Go.Proofs.Ytepkfigcnnfoaaa.P
open Go.RowKit Go.Proofs.YtepkfigcnnfoaaaW.PrintWords Go.Proofs.YtepkfigcnnfoaaaW.PrintLast Go.Proofs.YtepkfigcnnfoaaaW.PrintMore
attribute [local go_sem] max2_int min2_int max_two min_two max_three min_three max_four min_four
set_option linter.unusedVariables false
set_option linter.unusedSimpArgs false
def slices_ContainsFunc_Lint64_int64_at_impl_ValidChecker_1_1.f (k : Nat) (l0 : List Int) (a1_0 : Int) (a1_1 : Int) (l1_2 : List Bool) (l1_3 : List (List (S47))) (l1_4 : List (List (List Int))) (l1_5 : List (List Int)) : Option (Bool) := (slices_IndexFunc_Lint64_int64_at_impl_ValidChecker_1_1.f k l0 a1_0 a1_1 l1_2 l1_3 l1_4 l1_5).bind fun t485 => (some (decide (t485 ≥ 0)))
set_option maxHeartbeats 8000000 in
set_option maxRecDepth 100000 in
theorem slices_ContainsFunc_Lint64_int64_at_impl_ValidChecker_1_1.calls (k : Nat) (A0 : Option Addr) (c0 : Nat) (l0 : List Int) (g1_0_ : Nat) (a1_0 : Int) (a1_1 : Int) (A1_2 : Option Addr) (c1_2 : Nat) (l1_2 : List Bool) (A1_3 : Option Addr) (c1_3 : Nat) (l1_3 : List (List (S47))) (A1_4 : Option Addr) (c1_4 : Nat) (l1_4 : List (List (List Int))) (A1_5 : Option Addr) (c1_5 : Nat) (l1_5 : List (List Int)) (r : Bool) (w : World) (hr0 : Kd.C (Kd.int .i64) w A0 l0.length l0) (hc0 : l0.length ≤ c0) (hr1_2 : Kd.C Kd.bool w A1_2 l1_2.length l1_2) (hc1_2 : l1_2.length ≤ c1_2) (hr1_3 : Kd.C (Kd.slice 47 k47) w A1_3 l1_3.length l1_3) (hc1_3 : l1_3.length ≤ c1_3) (hr1_4 : Kd.C (Kd.slice 49 (Kd.slice 2 (Kd.int .i64))) w A1_4 l1_4.length l1_4) (hc1_4 : l1_4.length ≤ c1_4) (hr1_5 : Kd.C (Kd.slice 2 (Kd.int .i64)) w A1_5 l1_5.length l1_5) (hc1_5 : l1_5.length ≤ c1_5) (hbk1_0 : w.heap[g1_0_]? = some (.cells #[.int .i64 a1_0, .int .i64 a1_1, .slice A1_2 l1_2.length c1_2, .slice A1_3 l1_3.length c1_3, .slice A1_4 l1_4.length c1_4, .slice A1_5 l1_5.length c1_5] 27 (0, 0))) (h : slices_ContainsFunc_Lint64_int64_at_impl_ValidChecker_1_1.f k l0 a1_0 a1_1 l1_2 l1_3 l1_4 l1_5 = some r) :
  Calls Try.prog 104 #[.slice A0 l0.length c0, .func (.func 105) #[] #[.pointer (some ⟨g1_0_, 0, none⟩)]] w fun e w' => e = .returned (.bool r) ∧ Below w.heap.size w w' := by
 have HR0 := AZ.mk hr0
 have HC0 := AZ.mk hc0
 clear hr0 hc0
 have HR1_2 := AZ.mk hr1_2
 have HC1_2 := AZ.mk hc1_2
 clear hr1_2 hc1_2
 have HR1_3 := AZ.mk hr1_3
 have HC1_3 := AZ.mk hc1_3
 clear hr1_3 hc1_3
 have HR1_4 := AZ.mk hr1_4
 have HC1_4 := AZ.mk hc1_4
 clear hr1_4 hc1_4
 have HR1_5 := AZ.mk hr1_5
 have HC1_5 := AZ.mk hc1_5
 clear hr1_5 hc1_5
 have BK55 := AZ.mk hbk1_0
 clear hbk1_0
 have HB := AZ.mk (Below.refl w.heap.size w)
 have H : ((slices_IndexFunc_Lint64_int64_at_impl_ValidChecker_1_1.f k l0 a1_0 a1_1 l1_2 l1_3 l1_4 l1_5).bind fun t485 => (some (decide (t485 ≥ 0)))) = some r := h
 clear h
 replace H := Option.bind_eq_some_iff.mp H
 obtain ⟨t485, A30, H⟩ := H
 replace H : (some (decide (t485 ≥ 0))) = some r := H
 have A3 := AZ.mk A30
 clear A30
 obtain rfl := Option.some.inj H
 go_enter Try.func104, Try.ntmps104
 go_wp2_with (first | ((with_reducible refine gate_callee (f := 117) rfl ?_); refine goesL_ (some 7) rfl rfl Try.func117 (by kernel_rfl) rfl #[.slice A0 l0.length c0, .func (.func 105) #[] #[.pointer (some ⟨g1_0_, 0, none⟩)]] rfl (by (try simp only [List.map_toArray, List.map_cons, List.map_nil]); first | done | rfl | (simp only [List.length_drop, List.length_take]; rfl)) ?_; (with_reducible refine (slices_IndexFunc_Lint64_int64_at_impl_ValidChecker_1_1.calls k _ _ l0 g1_0_ a1_0 a1_1 A1_2 c1_2 l1_2 A1_3 c1_3 l1_3 A1_4 c1_4 l1_4 A1_5 c1_5 l1_5 t485 _ ?side1 ?side2 ?side3 ?side4 ?side5 ?side6 ?side7 ?side8 ?side9 ?side10 ?side11 A3.out).mono ?_); (case side1 => repeat (first | exact HR0.out | (with_reducible refine Kd.C_alloc ?_ _) | (with_reducible refine Kd.C_drewN ?_ _) | (with_reducible refine Kd.C_drew ?_))); (case side2 => exact HC0.out); (case side3 => repeat (first | exact HR1_2.out | (with_reducible refine Kd.C_alloc ?_ _) | (with_reducible refine Kd.C_drewN ?_ _) | (with_reducible refine Kd.C_drew ?_))); (case side4 => exact HC1_2.out); (case side5 => repeat (first | exact HR1_3.out | (with_reducible refine Kd.C_alloc ?_ _) | (with_reducible refine Kd.C_drewN ?_ _) | (with_reducible refine Kd.C_drew ?_))); (case side6 => exact HC1_3.out); (case side7 => repeat (first | exact HR1_4.out | (with_reducible refine Kd.C_alloc ?_ _) | (with_reducible refine Kd.C_drewN ?_ _) | (with_reducible refine Kd.C_drew ?_))); (case side8 => exact HC1_4.out); (case side9 => repeat (first | exact HR1_5.out | (with_reducible refine Kd.C_alloc ?_ _) | (with_reducible refine Kd.C_drewN ?_ _) | (with_reducible refine Kd.C_drew ?_))); (case side10 => exact HC1_5.out); (case side11 => exact (by (with_reducible repeat (first | refine bn_ ?_ _ | refine bd_ ?_ | refine ba_ ?_ _)); exact BK55.out)); rintro e w4 ⟨rfl, hb⟩; refine ⟨_, rfl, ?_⟩; have n0_ := AZ.mk (bb_ (g := g1_0_) (o := .cells #[.int .i64 a1_0, .int .i64 a1_1, .slice A1_2 l1_2.length c1_2, .slice A1_3 l1_3.length c1_3, .slice A1_4 l1_4.length c1_4, .slice A1_5 l1_5.length c1_5] 27 (0, 0)) (by (with_reducible repeat (first | refine bn_ ?_ _ | refine bd_ ?_ | refine ba_ ?_ _)); exact BK55.out) hb); have n1_ := AZ.mk (pT (by repeat (first | (with_reducible first | exact HB.out | apply pA | apply pN | apply pD | refine pS ?_ GE55.out) | exact HB.out)) hb); clear BK55; clear HB; have BK55 := n0_; have HB := n1_; clear n0_ n1_; (try clear hb); (try clear hb2); (try clear hk); (try clear hi)))
 go_ret
 exact ⟨by first | rfl | (simp [errW_none, errW_some] <;> rfl) | (simp [*, errW_none, errW_some] <;> rfl), by repeat (first | (with_reducible first | exact HB.out | apply pA | apply pN | apply pD | refine pS ?_ GE55.out) | exact HB.out)⟩
end Go.Proofs.Ytepkfigcnnfoaaa.P
namespace Go.Proofs.Ytepkfigcnnfoaaa.P
open Go.RowKit Go.Proofs.YtepkfigcnnfoaaaW.PrintWords Go.Proofs.YtepkfigcnnfoaaaW.PrintLast Go.Proofs.YtepkfigcnnfoaaaW.PrintMore
attribute [local go_sem] max2_int min2_int max_two min_two max_three min_three max_four min_four
set_option linter.unusedVariables false
set_option linter.unusedSimpArgs false
def impl_ValidChecker_1_c.f (k : Nat) (l0 : List Int) (a1 : Int) (a2_0 : Int) (a2_1 : Int) (l2_2 : List Bool) (l2_3 : List (List (S47))) (l2_4 : List (List (List Int))) (l2_5 : List (List Int)) : Option (Bool) := (impl_size_int64.f l0).bind fun t484 => (if t484 = a1 then ((slices_ContainsFunc_Lint64_int64_at_impl_ValidChecker_1_1.f k l0 a2_0 a2_1 l2_2 l2_3 l2_4 l2_5).bind fun t485 => (some (!t485))) else (some false))
set_option maxHeartbeats 8000000 in
set_option maxRecDepth 100000 in
theorem impl_ValidChecker_1_c.calls (k : Nat) (A0 : Option Addr) (c0 : Nat) (l0 : List Int) (a1 : Int) (g2_ : Nat) (a2_0 : Int) (a2_1 : Int) (A2_2 : Option Addr) (c2_2 : Nat) (l2_2 : List Bool) (A2_3 : Option Addr) (c2_3 : Nat) (l2_3 : List (List (S47))) (A2_4 : Option Addr) (c2_4 : Nat) (l2_4 : List (List (List Int))) (A2_5 : Option Addr) (c2_5 : Nat) (l2_5 : List (List Int)) (r : Bool) (w : World) (hr0 : Kd.C (Kd.int .i64) w A0 l0.length l0) (hc0 : l0.length ≤ c0) (hr2_2 : Kd.C Kd.bool w A2_2 l2_2.length l2_2) (hc2_2 : l2_2.length ≤ c2_2) (hr2_3 : Kd.C (Kd.slice 47 k47) w A2_3 l2_3.length l2_3) (hc2_3 : l2_3.length ≤ c2_3) (hr2_4 : Kd.C (Kd.slice 49 (Kd.slice 2 (Kd.int .i64))) w A2_4 l2_4.length l2_4) (hc2_4 : l2_4.length ≤ c2_4) (hr2_5 : Kd.C (Kd.slice 2 (Kd.int .i64)) w A2_5 l2_5.length l2_5) (hc2_5 : l2_5.length ≤ c2_5) (hbk2_0 : w.heap[g2_]? = some (.cells #[.int .i64 a2_0, .int .i64 a2_1, .slice A2_2 l2_2.length c2_2, .slice A2_3 l2_3.length c2_3, .slice A2_4 l2_4.length c2_4, .slice A2_5 l2_5.length c2_5] 27 (0, 0))) (h : impl_ValidChecker_1_c.f k l0 a1 a2_0 a2_1 l2_2 l2_3 l2_4 l2_5 = some r) :
  Calls Try.prog 102 #[.slice A0 l0.length c0, .int .i64 a1, .pointer (some ⟨g2_, 0, none⟩)] w fun e w' => e = .returned (.bool r) ∧ Below w.heap.size w w' := by
 have HR0 := AZ.mk hr0
 have HC0 := AZ.mk hc0
 clear hr0 hc0
 have HR2_2 := AZ.mk hr2_2
 have HC2_2 := AZ.mk hc2_2
 clear hr2_2 hc2_2
 have HR2_3 := AZ.mk hr2_3
 have HC2_3 := AZ.mk hc2_3
 clear hr2_3 hc2_3
 have HR2_4 := AZ.mk hr2_4
 have HC2_4 := AZ.mk hc2_4
 clear hr2_4 hc2_4
 have HR2_5 := AZ.mk hr2_5
 have HC2_5 := AZ.mk hc2_5
 clear hr2_5 hc2_5
 have BK2 := AZ.mk hbk2_0
 clear hbk2_0
 have HB := AZ.mk (Below.refl w.heap.size w)
 have H : ((impl_size_int64.f l0).bind fun t484 => (if t484 = a1 then ((slices_ContainsFunc_Lint64_int64_at_impl_ValidChecker_1_1.f k l0 a2_0 a2_1 l2_2 l2_3 l2_4 l2_5).bind fun t485 => (some (!t485))) else (some false))) = some r := h
 clear h
 replace H := Option.bind_eq_some_iff.mp H
 obtain ⟨t484, A40, H⟩ := H
 replace H : (if t484 = a1 then ((slices_ContainsFunc_Lint64_int64_at_impl_ValidChecker_1_1.f k l0 a2_0 a2_1 l2_2 l2_3 l2_4 l2_5).bind fun t485 => (some (!t485))) else (some false)) = some r := H
 have A4 := AZ.mk A40
 clear A40
 by_cases c5 : t484 = a1
 rotate_left
 ·rw [if_neg c5] at H
  have c5b0 : (t484 == a1) = false := beq_eq_false_iff_ne.mpr c5
  have c5b1 : (t484 != a1) = true := bne_iff_ne.mpr c5
  obtain rfl := Option.some.inj H
  go_enter Try.func102, Try.ntmps102
  go_wp2_with (first | ((with_reducible refine gate_callee (f := 103) rfl ?_); refine goesL_ (some 7) rfl rfl Try.func103 (by kernel_rfl) rfl #[.slice A0 l0.length c0] rfl (by (try simp only [List.map_toArray, List.map_cons, List.map_nil]); first | done | rfl | (simp only [List.length_drop, List.length_take]; rfl)) ?_; (with_reducible refine (impl_size_int64.calls _ _ l0 t484 _ ?side1 ?side2 A4.out).mono ?_); (case side1 => repeat (first | exact HR0.out | (with_reducible refine Kd.C_alloc ?_ _) | (with_reducible refine Kd.C_drewN ?_ _) | (with_reducible refine Kd.C_drew ?_))); (case side2 => exact HC0.out); rintro e w' ⟨rfl, ⟨nd, rfl⟩⟩; refine ⟨_, rfl, ?_⟩))
  go_ret
  exact ⟨by first | rfl | (simp [errW_none, errW_some] <;> rfl) | (simp [*, errW_none, errW_some] <;> rfl), by repeat (first | (with_reducible first | exact HB.out | apply pA | apply pN | apply pD | refine pS ?_ GE2.out) | exact HB.out)⟩
 rw [if_pos c5] at H
 have c5b0 : (t484 == a1) = true := beq_iff_eq.mpr c5
 have c5b1 : (t484 != a1) = false := bne_eq_false_iff_eq.mpr c5
 clear c5
 replace H := Option.bind_eq_some_iff.mp H
 obtain ⟨t485, A60, H⟩ := H
 replace H : (some (!t485)) = some r := H
 have A6 := AZ.mk A60
 clear A60
 obtain rfl := Option.some.inj H
 go_enter Try.func102, Try.ntmps102
 go_wp2_with (first | ((with_reducible refine gate_callee (f := 103) rfl ?_); refine goesL_ (some 7) rfl rfl Try.func103 (by kernel_rfl) rfl #[.slice A0 l0.length c0] rfl (by (try simp only [List.map_toArray, List.map_cons, List.map_nil]); first | done | rfl | (simp only [List.length_drop, List.length_take]; rfl)) ?_; (with_reducible refine (impl_size_int64.calls _ _ l0 t484 _ ?side1 ?side2 A4.out).mono ?_); (case side1 => repeat (first | exact HR0.out | (with_reducible refine Kd.C_alloc ?_ _) | (with_reducible refine Kd.C_drewN ?_ _) | (with_reducible refine Kd.C_drew ?_))); (case side2 => exact HC0.out); rintro e w' ⟨rfl, ⟨nd, rfl⟩⟩; refine ⟨_, rfl, ?_⟩) | (go_at_call 104; (with_reducible refine (slices_ContainsFunc_Lint64_int64_at_impl_ValidChecker_1_1.calls k _ _ l0 g2_ a2_0 a2_1 A2_2 c2_2 l2_2 A2_3 c2_3 l2_3 A2_4 c2_4 l2_4 A2_5 c2_5 l2_5 t485 _ ?side1 ?side2 ?side3 ?side4 ?side5 ?side6 ?side7 ?side8 ?side9 ?side10 ?side11 A6.out).mono ?_); (case side1 => repeat (first | exact HR0.out | (with_reducible refine Kd.C_alloc ?_ _) | (with_reducible refine Kd.C_drewN ?_ _) | (with_reducible refine Kd.C_drew ?_))); (case side2 => exact HC0.out); (case side3 => repeat (first | exact HR2_2.out | (with_reducible refine Kd.C_alloc ?_ _) | (with_reducible refine Kd.C_drewN ?_ _) | (with_reducible refine Kd.C_drew ?_))); (case side4 => exact HC2_2.out); (case side5 => repeat (first | exact HR2_3.out | (with_reducible refine Kd.C_alloc ?_ _) | (with_reducible refine Kd.C_drewN ?_ _) | (with_reducible refine Kd.C_drew ?_))); (case side6 => exact HC2_3.out); (case side7 => repeat (first | exact HR2_4.out | (with_reducible refine Kd.C_alloc ?_ _) | (with_reducible refine Kd.C_drewN ?_ _) | (with_reducible refine Kd.C_drew ?_))); (case side8 => exact HC2_4.out); (case side9 => repeat (first | exact HR2_5.out | (with_reducible refine Kd.C_alloc ?_ _) | (with_reducible refine Kd.C_drewN ?_ _) | (with_reducible refine Kd.C_drew ?_))); (case side10 => exact HC2_5.out); (case side11 => exact (by (with_reducible repeat (first | refine bn_ ?_ _ | refine bd_ ?_ | refine ba_ ?_ _)); exact BK2.out)); rintro e w7 ⟨rfl, hb⟩; have n0_ := AZ.mk (bb_ (g := g2_) (o := .cells #[.int .i64 a2_0, .int .i64 a2_1, .slice A2_2 l2_2.length c2_2, .slice A2_3 l2_3.length c2_3, .slice A2_4 l2_4.length c2_4, .slice A2_5 l2_5.length c2_5] 27 (0, 0)) (by (with_reducible repeat (first | refine bn_ ?_ _ | refine bd_ ?_ | refine ba_ ?_ _)); exact BK2.out) hb); have n1_ := AZ.mk (pT (by repeat (first | (with_reducible first | exact HB.out | apply pA | apply pN | apply pD | refine pS ?_ GE2.out) | exact HB.out)) hb); clear BK2; clear HB; have BK2 := n0_; have HB := n1_; clear n0_ n1_; (try clear hb); (try clear hb2); (try clear hk); (try clear hi)))
 go_ret
 exact ⟨by first | rfl | (simp [errW_none, errW_some] <;> rfl) | (simp [*, errW_none, errW_some] <;> rfl), by repeat (first | (with_reducible first | exact HB.out | apply pA | apply pN | apply pD | refine pS ?_ GE2.out) | exact HB.out)⟩
end Go.Proofs.Ytepkfigcnnfoaaa.P
