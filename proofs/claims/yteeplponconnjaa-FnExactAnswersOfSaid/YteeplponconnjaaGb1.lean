/- Texts that this law leans on, several in one; written by programs of these sessions (print, wip/deep, gather.py). -/
import Derived.Test.YteeplponconnjaaGb0
namespace Go.Proofs.Yteeplponconnjaa.P
open Go.RowKit Go.Proofs.YteeplponconnjaaW.PrintWords Go.Proofs.YteeplponconnjaaW.PrintLast Go.Proofs.YteeplponconnjaaW.PrintMore
attribute [local go_sem] max2_int min2_int max_two min_two max_three min_three max_four min_four
set_option linter.unusedVariables false
set_option linter.unusedSimpArgs false
def laws_eqQueryStepS.l0 : Nat → List (S62) → List (S62) → Int → Option (Bool)
 | 0, _, _, _ => none
 | k + 1, x0, x1, x5 => if x5 < (x0.length : Int) then (if 0 ≤ x5 then (if x5 < (x1.length : Int) then ((laws_eqQueryStep.f ((rd_T62 x0 x5).f0) ((rd_T62 x0 x5).f1) ((rd_T62 x1 x5).f0) ((rd_T62 x1 x5).f1)).bind fun t284 => (if t284 = true then (laws_eqQueryStepS.l0 k x0 x1 (wrap64 (x5 + 1))) else (some false))) else (none)) else (none)) else (some true)
def laws_eqQueryStepS.f (k : Nat) (l0 : List (S62)) (l1 : List (S62)) : Option (Bool) := if (l0.length : Int) = (l1.length : Int) then (laws_eqQueryStepS.l0 k l0 l1 0) else (some false)
def laws_eqQueryStepS.T6 : Bool × List (List Nat × List Nat) := (true, [([], []), ([], []), ([0, 1], [0, 1]), ([2], [2]), ([], []), ([], []), ([4, 5], [4, 5]), ([6], [6]), ([3, 7], [3, 7]), ([8], [8])])
def laws_eqQueryStepS.B6 : List Nat := [0, 0, 3, 7, 0, 0, 48, 112, 255, 511]
theorem laws_eqQueryStepS.tab6 : rtab .any (opsOf Try.f21 6) = laws_eqQueryStepS.T6 := by kernel_rfl
theorem laws_eqQueryStepS.bits6 : waitsOk laws_eqQueryStepS.T6.2 laws_eqQueryStepS.B6 = true := by kernel_rfl
def laws_eqQueryStepS.cz0 : List Nat := [0, 1, 2, 4, 5, 6, 403, 407]
set_option maxHeartbeats 8000000 in
set_option maxRecDepth 100000 in
theorem laws_eqQueryStepS.calls (k : Nat) (A0 : Option Addr) (c0 : Nat) (l0 : List (S62)) (A1 : Option Addr) (c1 : Nat) (l1 : List (S62)) (r : Bool) (w : World) (hr0 : Kd.C k62 w A0 l0.length l0) (hc0 : l0.length ≤ c0) (hr1 : Kd.C k62 w A1 l1.length l1) (hc1 : l1.length ≤ c1) (h : laws_eqQueryStepS.f k l0 l1 = some r) :
  Calls Try.prog 21 #[.slice A0 l0.length c0, .slice A1 l1.length c1] w fun e w' => e = .returned (.bool r) ∧ Below w.heap.size w w' := by
 have hu62 := Try.underlying62
 have HR0 := AZ.mk hr0
 have HC0 := AZ.mk hc0
 clear hr0 hc0
 have HR1 := AZ.mk hr1
 have HC1 := AZ.mk hc1
 clear hr1 hc1
 have HB := AZ.mk (Below.refl w.heap.size w)
 have H : (if (l0.length : Int) = (l1.length : Int) then (laws_eqQueryStepS.l0 k l0 l1 0) else (some false)) = some r := h
 clear h
 by_cases c3 : (l0.length : Int) = (l1.length : Int)
 rotate_left
 ·rw [if_neg c3] at H
  have c3b0 : ((l0.length : Int) == (l1.length : Int)) = false := beq_eq_false_iff_ne.mpr c3
  have c3b1 : ((l0.length : Int) != (l1.length : Int)) = true := bne_iff_ne.mpr c3
  have c3b2 : (l0.length == l1.length) = false := by first | simpa using c3 | (simp at c3 ⊢; omega)
  obtain rfl := Option.some.inj H
  go_enter Try.func21, Try.ntmps21
  go_wp2
  go_ret
  exact ⟨by first | rfl | (simp [errW_none, errW_some] <;> rfl) | (simp [*, errW_none, errW_some] <;> rfl), by repeat (first | (with_reducible first | exact HB.out | apply pA | apply pN | apply pD) | exact HB.out)⟩
 rw [if_pos c3] at H
 have c3b0 : ((l0.length : Int) == (l1.length : Int)) = true := beq_iff_eq.mpr c3
 have c3b1 : ((l0.length : Int) != (l1.length : Int)) = false := bne_eq_false_iff_eq.mpr c3
 have c3b2 : (l0.length == l1.length) = true := by first | simpa using c3 | (simp at c3 ⊢; omega)
 clear c3
 have H' := AZ.mk H
 clear H
 go_enter Try.func21, Try.ntmps21
 go_wp2
 go_loopg [5] k (fun kq v5 w' => ∃ (x5_1 : Int), v5 = .int .i64 x5_1 ∧ AZ (laws_eqQueryStepS.l0 kq l0 l1 x5_1 = some r) ∧ AZ (kq ≤ k) ∧ AZ (Below w.heap.size w w'))
 case atStart => exact ⟨(0), (by first | rfl | (simp; done) | (simp [*]; done)), H', ⟨Nat.le_refl _⟩, ⟨by repeat (first | (with_reducible first | exact HB.out | apply pA | apply pN | apply pD) | exact HB.out)⟩⟩
 case round =>
  clear H'
  try clear c1
  try clear c2
  try clear p2
  try clear c3
  try clear c3b0
  try clear c3b1
  try clear c3b2
  obtain ⟨x5_1, rfl, HA, HK1, HB⟩ := hrel
  cases gk with
  | zero => exact absurd HA.out (by simp [laws_eqQueryStepS.l0])
  | succ k1 =>
   have H := HA.out
   clear HA
   simp only [laws_eqQueryStepS.l0] at H
   by_cases c4 : x5_1 < (l0.length : Int)
   rotate_left
   ·rw [if_neg c4] at H
    have c4b0 : decide (x5_1 < (l0.length : Int)) = false := decide_eq_false c4
    clear c4
    obtain rfl := Option.some.inj H
    go_wp2
    go_ret
    exact ⟨by first | rfl | (simp [errW_none, errW_some] <;> rfl) | (simp [*, errW_none, errW_some] <;> rfl), by repeat (first | (with_reducible first | exact HB.out | apply pA | apply pN | apply pD) | exact HB.out)⟩
   rw [if_pos c4] at H
   have c4b0 : decide (x5_1 < (l0.length : Int)) = true := decide_eq_true c4
   clear c4
   by_cases c5 : 0 ≤ x5_1
   rotate_left
   ·rw [if_neg c5] at H
    exact absurd H (by simp)
   rw [if_pos c5] at H
   have c5b0 : decide (0 ≤ x5_1) = true := decide_eq_true c5
   clear c5
   by_cases c6 : x5_1 < (l1.length : Int)
   rotate_left
   ·rw [if_neg c6] at H
    exact absurd H (by simp)
   rw [if_pos c6] at H
   have c6b0 : decide (x5_1 < (l1.length : Int)) = true := decide_eq_true c6
   clear c6
   replace H := Option.bind_eq_some_iff.mp H
   obtain ⟨t284, A70, H⟩ := H
   replace H : (if t284 = true then (laws_eqQueryStepS.l0 k1 l0 l1 (wrap64 (x5_1 + 1))) else (some false)) = some r := H
   have A7 := AZ.mk A70
   clear A70
   by_cases c8 : t284 = true
   rotate_left
   ·replace c8 := Bool.eq_false_iff.mpr c8
    subst c8
    have H1 : (some false) = some r := by rw [if_neg (show ¬ (false = true) by decide)] at H; exact H
    clear H
    have H := H1
    clear H1
    obtain rfl := Option.some.inj H
    try go_wp2
    have n0_ := AZ.mk (pD HB.out)
    clear HB
    have HB := n0_
    clear n0_
    have p282 : 0 ≤ (x5_1 : Int) := oT (by first | (with_reducible assumption) | assumption)
    have q282 : x5_1 < (l0.length : Int) := oT (by first | (with_reducible assumption) | assumption)
    obtain ⟨ad282, e282, hx282_0, hx282_1⟩ := at_T62 HR0.out x5_1 p282 q282
    have hw282_1 := hx282_1
    have hw282_0 := hx282_0
    cases e282
    replace hx282_0 := (HB.out.cell (World.block_lt_of_cell? w _ hx282_0)).trans hx282_0
    replace hx282_1 := (HB.out.cell (World.block_lt_of_cell? w _ hx282_1)).trans hx282_1
    replace p282 := eq_true p282
    replace q282 := eq_true q282
    have p283 : 0 ≤ (x5_1 : Int) := oT (by first | (with_reducible assumption) | assumption)
    have q283 : x5_1 < (l1.length : Int) := oT (by first | (with_reducible assumption) | assumption)
    obtain ⟨ad283, e283, hx283_0, hx283_1⟩ := at_T62 HR1.out x5_1 p283 q283
    have hw283_1 := hx283_1
    have hw283_0 := hx283_0
    cases e283
    replace hx283_0 := (HB.out.cell (World.block_lt_of_cell? w _ hx283_0)).trans hx283_0
    replace hx283_1 := (HB.out.cell (World.block_lt_of_cell? w _ hx283_1)).trans hx283_1
    replace p283 := eq_true p283
    replace q283 := eq_true q283
    refine start_ (n := 10) (S := fun w' => w'.cell? (ad282.add ((x5_1).toNat * 2)) = some (.bool ((rd_T62 l0 x5_1).f0)) ∧ w'.cell? ⟨(ad282.add ((x5_1).toNat * 2)).block, (ad282.add ((x5_1).toNat * 2)).off + 1, none⟩ = some (.string ((rd_T62 l0 x5_1).f1)) ∧ w'.cell? (ad283.add ((x5_1).toNat * 2)) = some (.bool ((rd_T62 l1 x5_1).f0)) ∧ w'.cell? ⟨(ad283.add ((x5_1).toNat * 2)).block, (ad283.add ((x5_1).toNat * 2)).off + 1, none⟩ = some (.string ((rd_T62 l1 x5_1).f1))) (ds := []) (bz 10 0) (by kernel_rfl) rfl rfl ⟨((HB.out.cell (World.block_lt_of_cell? w _ hw282_0)).trans hw282_0), ((HB.out.cell (World.block_lt_of_cell? w _ hw282_1)).trans hw282_1), ((HB.out.cell (World.block_lt_of_cell? w _ hw283_0)).trans hw283_0), ((HB.out.cell (World.block_lt_of_cell? w _ hw283_1)).trans hw283_1)⟩ (fun hHeld => ?_); refine with_tabW laws_eqQueryStepS.tab6 laws_eqQueryStepS.bits6 (fun HT_ HW_ => ?_)
    generalize wr.drew = w11 at HB hx282_0 hx282_1 hx283_0 hx283_1 hHeld ⊢
    iterate 8 (first | (refine pz_ HT_ laws_eqQueryStepS.cz0 rfl rfl rfl (v := ?_) (a' := ?_) (by kernel_rfl) (fun _ _ _ h => h) (Or.inl ⟨by rfl, ?_⟩) ?_ ?_; rotate_left; (intro w'; go_simp; with_reducible rfl); rotate_left; (simp only [Act.put, sA, sB, sC, i64_w, i32_w]; rfl)) | (refine tz_ HT_ HW_ laws_eqQueryStepS.cz0 rfl rfl rfl (v := ?_) (a' := ?_) (by kernel_rfl) (fun _ _ _ h => h) (Or.inl ⟨by rfl, ?_⟩) hHeld ?_ ?_; rotate_left; (rintro w' ⟨s0, s1, s2, s3⟩; go_simp; with_reducible rfl); rotate_left; (simp only [Act.put, sA, sB, sC, i64_w, i32_w]; rfl)))
    refine one_ (i := 8) (N := some 25) (bz 10 511) rfl rfl (one_of HT_.out (by kernel_rfl)) (by decide) (fun K hK => ?_)
    refine goes_ Try.func32 (by kernel_rfl) rfl #[.agg #[.bool ((rd_T62 l0 x5_1).f0), .string ((rd_T62 l0 x5_1).f1)], .agg #[.bool ((rd_T62 l1 x5_1).f0), .string ((rd_T62 l1 x5_1).f1)]] (by rfl) rfl rfl (by (try simp only [List.map_toArray, List.map_cons, List.map_nil]); first | done | rfl | (simp only [List.length_drop, List.length_take]; rfl)) ?_
    with_reducible refine (laws_eqQueryStep.calls ((rd_T62 l0 x5_1).f0) ((rd_T62 l0 x5_1).f1) ((rd_T62 l1 x5_1).f0) ((rd_T62 l1 x5_1).f1) false _ A7.out).mono ?_
    rintro e w12 ⟨rfl, hb⟩
    refine ⟨_, rfl, ?_⟩
    have n0_ := AZ.mk (pT (by repeat (first | (with_reducible first | exact HB.out | apply pA | apply pN | apply pD) | exact HB.out)) hb)
    clear HB
    have HB := n0_
    clear n0_
    (try clear hb)
    (try clear hb2)
    (try clear hk)
    (try clear hi)
    refine hK.out _ _ ⟨((HB.out.cell (World.block_lt_of_cell? w _ hw282_0)).trans hw282_0), ((HB.out.cell (World.block_lt_of_cell? w _ hw282_1)).trans hw282_1), ((HB.out.cell (World.block_lt_of_cell? w _ hw283_0)).trans hw283_0), ((HB.out.cell (World.block_lt_of_cell? w _ hw283_1)).trans hw283_1)⟩ (fun hHeld => ?_)
    clear hK K
    refine norm_ (a' := ?_) ?_ ?_
    rotate_left
    ·show Act.put _ (some 25) _ = _
     simp only [Act.put, sA, sB, sC, i64_w, i32_w]
     rfl
    refine pure_ (i := 9) (N := some 26) (v := ?_) (a' := ?_) (bz 10 1023) rfl rfl (any_of HT_.out (by kernel_rfl)) (fun _ _ _ h => h) (Or.inl ⟨by rfl, ?_⟩) ?_ ?_
    rotate_left
    ·intro w'
     go_simp
     with_reducible rfl
    rotate_left
    ·simp only [Act.put, sA, sB, sC, i64_w, i32_w]
     rfl
    refine done_ (done_of HT_.out (by kernel_rfl)) ?_
    try go_wp2
    go_ret
    exact ⟨by first | rfl | (simp [errW_none, errW_some] <;> rfl) | (simp [*, errW_none, errW_some] <;> rfl), by repeat (first | (with_reducible first | exact HB.out | apply pA | apply pN | apply pD) | exact HB.out)⟩
   subst c8
   have H1 : (laws_eqQueryStepS.l0 k1 l0 l1 (wrap64 (x5_1 + 1))) = some r := by rw [if_pos rfl] at H; exact H
   clear H
   have H := H1
   clear H1
   have H' := AZ.mk H
   clear H
   try go_wp2
   have n0_ := AZ.mk (pD HB.out)
   clear HB
   have HB := n0_
   clear n0_
   have p282 : 0 ≤ (x5_1 : Int) := oT (by first | (with_reducible assumption) | assumption)
   have q282 : x5_1 < (l0.length : Int) := oT (by first | (with_reducible assumption) | assumption)
   obtain ⟨ad282, e282, hx282_0, hx282_1⟩ := at_T62 HR0.out x5_1 p282 q282
   have hw282_1 := hx282_1
   have hw282_0 := hx282_0
   cases e282
   replace hx282_0 := (HB.out.cell (World.block_lt_of_cell? w _ hx282_0)).trans hx282_0
   replace hx282_1 := (HB.out.cell (World.block_lt_of_cell? w _ hx282_1)).trans hx282_1
   replace p282 := eq_true p282
   replace q282 := eq_true q282
   have p283 : 0 ≤ (x5_1 : Int) := oT (by first | (with_reducible assumption) | assumption)
   have q283 : x5_1 < (l1.length : Int) := oT (by first | (with_reducible assumption) | assumption)
   obtain ⟨ad283, e283, hx283_0, hx283_1⟩ := at_T62 HR1.out x5_1 p283 q283
   have hw283_1 := hx283_1
   have hw283_0 := hx283_0
   cases e283
   replace hx283_0 := (HB.out.cell (World.block_lt_of_cell? w _ hx283_0)).trans hx283_0
   replace hx283_1 := (HB.out.cell (World.block_lt_of_cell? w _ hx283_1)).trans hx283_1
   replace p283 := eq_true p283
   replace q283 := eq_true q283
   refine start_ (n := 10) (S := fun w' => w'.cell? (ad282.add ((x5_1).toNat * 2)) = some (.bool ((rd_T62 l0 x5_1).f0)) ∧ w'.cell? ⟨(ad282.add ((x5_1).toNat * 2)).block, (ad282.add ((x5_1).toNat * 2)).off + 1, none⟩ = some (.string ((rd_T62 l0 x5_1).f1)) ∧ w'.cell? (ad283.add ((x5_1).toNat * 2)) = some (.bool ((rd_T62 l1 x5_1).f0)) ∧ w'.cell? ⟨(ad283.add ((x5_1).toNat * 2)).block, (ad283.add ((x5_1).toNat * 2)).off + 1, none⟩ = some (.string ((rd_T62 l1 x5_1).f1))) (ds := []) (bz 10 0) (by kernel_rfl) rfl rfl ⟨((HB.out.cell (World.block_lt_of_cell? w _ hw282_0)).trans hw282_0), ((HB.out.cell (World.block_lt_of_cell? w _ hw282_1)).trans hw282_1), ((HB.out.cell (World.block_lt_of_cell? w _ hw283_0)).trans hw283_0), ((HB.out.cell (World.block_lt_of_cell? w _ hw283_1)).trans hw283_1)⟩ (fun hHeld => ?_); refine with_tabW laws_eqQueryStepS.tab6 laws_eqQueryStepS.bits6 (fun HT_ HW_ => ?_)
   generalize wr.drew = w9 at HB hx282_0 hx282_1 hx283_0 hx283_1 hHeld ⊢
   iterate 8 (first | (refine pz_ HT_ laws_eqQueryStepS.cz0 rfl rfl rfl (v := ?_) (a' := ?_) (by kernel_rfl) (fun _ _ _ h => h) (Or.inl ⟨by rfl, ?_⟩) ?_ ?_; rotate_left; (intro w'; go_simp; with_reducible rfl); rotate_left; (simp only [Act.put, sA, sB, sC, i64_w, i32_w]; rfl)) | (refine tz_ HT_ HW_ laws_eqQueryStepS.cz0 rfl rfl rfl (v := ?_) (a' := ?_) (by kernel_rfl) (fun _ _ _ h => h) (Or.inl ⟨by rfl, ?_⟩) hHeld ?_ ?_; rotate_left; (rintro w' ⟨s0, s1, s2, s3⟩; go_simp; with_reducible rfl); rotate_left; (simp only [Act.put, sA, sB, sC, i64_w, i32_w]; rfl)))
   refine one_ (i := 8) (N := some 25) (bz 10 511) rfl rfl (one_of HT_.out (by kernel_rfl)) (by decide) (fun K hK => ?_)
   refine goes_ Try.func32 (by kernel_rfl) rfl #[.agg #[.bool ((rd_T62 l0 x5_1).f0), .string ((rd_T62 l0 x5_1).f1)], .agg #[.bool ((rd_T62 l1 x5_1).f0), .string ((rd_T62 l1 x5_1).f1)]] (by rfl) rfl rfl (by (try simp only [List.map_toArray, List.map_cons, List.map_nil]); first | done | rfl | (simp only [List.length_drop, List.length_take]; rfl)) ?_
   with_reducible refine (laws_eqQueryStep.calls ((rd_T62 l0 x5_1).f0) ((rd_T62 l0 x5_1).f1) ((rd_T62 l1 x5_1).f0) ((rd_T62 l1 x5_1).f1) true _ A7.out).mono ?_
   rintro e w10 ⟨rfl, hb⟩
   refine ⟨_, rfl, ?_⟩
   have n0_ := AZ.mk (pT (by repeat (first | (with_reducible first | exact HB.out | apply pA | apply pN | apply pD) | exact HB.out)) hb)
   clear HB
   have HB := n0_
   clear n0_
   (try clear hb)
   (try clear hb2)
   (try clear hk)
   (try clear hi)
   refine hK.out _ _ ⟨((HB.out.cell (World.block_lt_of_cell? w _ hw282_0)).trans hw282_0), ((HB.out.cell (World.block_lt_of_cell? w _ hw282_1)).trans hw282_1), ((HB.out.cell (World.block_lt_of_cell? w _ hw283_0)).trans hw283_0), ((HB.out.cell (World.block_lt_of_cell? w _ hw283_1)).trans hw283_1)⟩ (fun hHeld => ?_)
   clear hK K
   refine norm_ (a' := ?_) ?_ ?_
   rotate_left
   ·show Act.put _ (some 25) _ = _
    simp only [Act.put, sA, sB, sC, i64_w, i32_w]
    rfl
   refine pure_ (i := 9) (N := some 26) (v := ?_) (a' := ?_) (bz 10 1023) rfl rfl (any_of HT_.out (by kernel_rfl)) (fun _ _ _ h => h) (Or.inl ⟨by rfl, ?_⟩) ?_ ?_
   rotate_left
   ·intro w'
    go_simp
    with_reducible rfl
   rotate_left
   ·simp only [Act.put, sA, sB, sC, i64_w, i32_w]
    rfl
   refine done_ (done_of HT_.out (by kernel_rfl)) ?_
   try go_wp2
   go_roundg k1
   case measure => have := HK1.out; omega
   case rel => exact ⟨(wrap64 (x5_1 + 1)), (by first | rfl | (simp; done) | (simp [*]; done)), H', ⟨by have := HK1.out; omega⟩, ⟨by repeat (first | (with_reducible first | exact HB.out | apply pA | apply pN | apply pD) | exact HB.out)⟩⟩
end Go.Proofs.Yteeplponconnjaa.P
namespace Go.Proofs.Yteeplponconnjaa.P
open Go.RowKit Go.Proofs.YteeplponconnjaaW.PrintWords Go.Proofs.YteeplponconnjaaW.PrintLast Go.Proofs.YteeplponconnjaaW.PrintMore
attribute [local go_sem] max2_int min2_int max_two min_two max_three min_three max_four min_four
set_option linter.unusedVariables false
set_option linter.unusedSimpArgs false
def laws_eqQuery.f (k : Nat) (l0_0 : List (S62)) (l1_0 : List (S62)) : Option (Bool) := (laws_eqQueryStepS.f k l0_0 l1_0).bind fun t287 => (if t287 = true then (some true) else (some false))
set_option maxHeartbeats 8000000 in
set_option maxRecDepth 100000 in
theorem laws_eqQuery.calls (k : Nat) (A0_0 : Option Addr) (c0_0 : Nat) (l0_0 : List (S62)) (A1_0 : Option Addr) (c1_0 : Nat) (l1_0 : List (S62)) (r : Bool) (w : World) (hr0_0 : Kd.C k62 w A0_0 l0_0.length l0_0) (hc0_0 : l0_0.length ≤ c0_0) (hr1_0 : Kd.C k62 w A1_0 l1_0.length l1_0) (hc1_0 : l1_0.length ≤ c1_0) (h : laws_eqQuery.f k l0_0 l1_0 = some r) :
  Calls Try.prog 9 #[.agg #[.slice A0_0 l0_0.length c0_0], .agg #[.slice A1_0 l1_0.length c1_0]] w fun e w' => e = .returned (.bool r) ∧ Below w.heap.size w w' := by
 have hu30 := Try.underlying30
 have HR0_0 := AZ.mk hr0_0
 have HC0_0 := AZ.mk hc0_0
 clear hr0_0 hc0_0
 have HR1_0 := AZ.mk hr1_0
 have HC1_0 := AZ.mk hc1_0
 clear hr1_0 hc1_0
 have HB := AZ.mk (Below.refl w.heap.size w)
 have H : ((laws_eqQueryStepS.f k l0_0 l1_0).bind fun t287 => (if t287 = true then (some true) else (some false))) = some r := h
 clear h
 replace H := Option.bind_eq_some_iff.mp H
 obtain ⟨t287, A30, H⟩ := H
 replace H : (if t287 = true then (some true) else (some false)) = some r := H
 have A3 := AZ.mk A30
 clear A30
 by_cases c4 : t287 = true
 ·subst c4
  have H1 : (some true) = some r := by rw [if_pos rfl] at H; exact H
  clear H
  have H := H1
  clear H1
  obtain rfl := Option.some.inj H
  go_enter Try.func9, Try.ntmps9
  go_wp2_with (first | ((with_reducible refine gate_dst (N := 2) rfl ?_); refine box_event ?hg (N := 2) ?hd (cs := #[.slice A0_0 l0_0.length c0_0]) (t := 30) ?hr ?_; (case hd => rfl); (case hg => rfl); (case hr => first | (go_simp; done) | (go_simp; rfl)); intro gb285 hg w5 hbox hb; have n0_ := AZ.mk (pT (by repeat (first | (with_reducible first | exact HB.out | apply pA | apply pN | apply pD) | exact HB.out)) hb); have n1_ := AZ.mk (hbox); have n2_ := AZ.mk ((by rw [hg]; exact (pZ (by repeat (first | (with_reducible first | exact HB.out | apply pA | apply pN | apply pD) | exact HB.out))) : w.heap.size ≤ gb285)); have n3_ := AZ.mk ((by rw [hg]; exact (pZ (by repeat (first | (with_reducible first | exact HB.out | apply pA | apply pN | apply pD) | exact HB.out))) : w.heap.size ≤ gb285)); clear HB; have HB := n0_; have BK285 := n1_; have GW285 := n2_; have GE285 := n3_; clear n0_ n1_ n2_ n3_; clear hb hbox hg) | ((with_reducible refine gate_dst (N := 3) rfl ?_); refine box_event ?hg (N := 3) ?hd (cs := #[.slice A1_0 l1_0.length c1_0]) (t := 30) ?hr ?_; (case hd => rfl); (case hg => rfl); (case hr => first | (go_simp; done) | (go_simp; rfl)); intro gb286 hg w6 hbox hb; have n0_ := AZ.mk (bb_ (g := gb285) (o := .cells #[.slice A0_0 l0_0.length c0_0] 30 (0, 0)) (by (with_reducible repeat (first | refine bn_ ?_ _ | refine bd_ ?_ | refine ba_ ?_ _)); exact BK285.out) hb); have n1_ := AZ.mk (pT (by repeat (first | (with_reducible first | exact HB.out | apply pA | apply pN | apply pD | refine pS ?_ GE285.out) | exact HB.out)) hb); have n2_ := AZ.mk (hbox); have n3_ := AZ.mk ((by rw [hg]; exact (pZ (by repeat (first | (with_reducible first | exact HB.out | apply pA | apply pN | apply pD | refine pS ?_ GE285.out) | exact HB.out))) : w.heap.size ≤ gb286)); have n4_ := AZ.mk ((by rw [hg]; exact (pZ (by repeat (first | (with_reducible first | exact HB.out | apply pA | apply pN | apply pD | refine pS ?_ GE285.out) | exact HB.out))) : w.heap.size ≤ gb286)); have n5_ := AZ.mk ((by rw [hg]; exact Nat.ne_of_lt (blk_lt (g := gb285) (o := .cells #[.slice A0_0 l0_0.length c0_0] 30 (0, 0)) (by (with_reducible repeat (first | refine bn_ ?_ _ | refine bd_ ?_ | refine ba_ ?_ _)); exact BK285.out)) : gb285 ≠ gb286)); have n6_ := AZ.mk ((by rw [hg]; exact Nat.ne_of_gt (blk_lt (g := gb285) (o := .cells #[.slice A0_0 l0_0.length c0_0] 30 (0, 0)) (by (with_reducible repeat (first | refine bn_ ?_ _ | refine bd_ ?_ | refine ba_ ?_ _)); exact BK285.out)) : gb286 ≠ gb285)); clear BK285; clear HB; have BK285 := n0_; have HB := n1_; have BK286 := n2_; have GW286 := n3_; have GE286 := n4_; have NB285_286 := n5_; have NB286_285 := n6_; clear n0_ n1_ n2_ n3_ n4_ n5_ n6_; clear hb hbox hg; have hnb7 := NB285_286.out; have hnc7 := NB286_285.out; have hcz8_0 : w6.cell? ⟨gb285, 0, none⟩ = some (.slice A0_0 l0_0.length c0_0) := (bc BK285.out 0).trans rfl; have hfz8_0 := bf BK285.out 0; have hcz9_0 : w6.cell? ⟨gb286, 0, none⟩ = some (.slice A1_0 l1_0.length c1_0) := (bc BK286.out 0).trans rfl; have hfz9_0 := bf BK286.out 0) | ((with_reducible refine gate_callee (f := 21) rfl ?_); refine goesL_ (some 9) rfl rfl Try.func21 (by kernel_rfl) rfl #[.slice A0_0 l0_0.length c0_0, .slice A1_0 l1_0.length c1_0] rfl (by (try simp only [List.map_toArray, List.map_cons, List.map_nil]); first | done | rfl | (simp only [List.length_drop, List.length_take]; rfl)) ?_; (with_reducible refine (laws_eqQueryStepS.calls k _ _ l0_0 _ _ l1_0 true _ ?side1 ?side2 ?side3 ?side4 A3.out).mono ?_); (case side1 => repeat (first | exact (Kd.C_below HR0_0.out HB.out) | (with_reducible refine Kd.C_alloc ?_ _) | (with_reducible refine Kd.C_drewN ?_ _) | (with_reducible refine Kd.C_drew ?_))); (case side2 => exact HC0_0.out); (case side3 => repeat (first | exact (Kd.C_below HR1_0.out HB.out) | (with_reducible refine Kd.C_alloc ?_ _) | (with_reducible refine Kd.C_drewN ?_ _) | (with_reducible refine Kd.C_drew ?_))); (case side4 => exact HC1_0.out); rintro e w10 ⟨rfl, hb⟩; refine ⟨_, rfl, ?_⟩; have n0_ := AZ.mk (bb_ (g := gb285) (o := .cells #[.slice A0_0 l0_0.length c0_0] 30 (0, 0)) (by (with_reducible repeat (first | refine bn_ ?_ _ | refine bd_ ?_ | refine ba_ ?_ _)); exact BK285.out) hb); have n1_ := AZ.mk (bb_ (g := gb286) (o := .cells #[.slice A1_0 l1_0.length c1_0] 30 (0, 0)) (by (with_reducible repeat (first | refine bn_ ?_ _ | refine bd_ ?_ | refine ba_ ?_ _)); exact BK286.out) hb); have n2_ := AZ.mk (pT (by repeat (first | (with_reducible first | exact HB.out | apply pA | apply pN | apply pD | refine pS ?_ GE285.out | refine pS ?_ GE286.out) | exact HB.out)) hb); clear BK285; clear BK286; clear HB; have BK285 := n0_; have BK286 := n1_; have HB := n2_; clear n0_ n1_ n2_; (try clear hb); (try clear hb2); (try clear hk); (try clear hi)))
  go_ret
  exact ⟨by first | rfl | (simp [errW_none, errW_some] <;> rfl) | (simp [*, errW_none, errW_some] <;> rfl), by repeat (first | (with_reducible first | exact HB.out | apply pA | apply pN | apply pD | refine pS ?_ GE285.out | refine pS ?_ GE286.out) | exact HB.out)⟩
 replace c4 := Bool.eq_false_iff.mpr c4
 subst c4
 have H1 : (some false) = some r := by rw [if_neg (show ¬ (false = true) by decide)] at H; exact H
 clear H
 have H := H1
 clear H1
 obtain rfl := Option.some.inj H
 go_enter Try.func9, Try.ntmps9
 go_wp2_with (first | ((with_reducible refine gate_dst (N := 2) rfl ?_); refine box_event ?hg (N := 2) ?hd (cs := #[.slice A0_0 l0_0.length c0_0]) (t := 30) ?hr ?_; (case hd => rfl); (case hg => rfl); (case hr => first | (go_simp; done) | (go_simp; rfl)); intro gb285 hg w11 hbox hb; have n0_ := AZ.mk (pT (by repeat (first | (with_reducible first | exact HB.out | apply pA | apply pN | apply pD) | exact HB.out)) hb); have n1_ := AZ.mk (hbox); have n2_ := AZ.mk ((by rw [hg]; exact (pZ (by repeat (first | (with_reducible first | exact HB.out | apply pA | apply pN | apply pD) | exact HB.out))) : w.heap.size ≤ gb285)); have n3_ := AZ.mk ((by rw [hg]; exact (pZ (by repeat (first | (with_reducible first | exact HB.out | apply pA | apply pN | apply pD) | exact HB.out))) : w.heap.size ≤ gb285)); clear HB; have HB := n0_; have BK285 := n1_; have GW285 := n2_; have GE285 := n3_; clear n0_ n1_ n2_ n3_; clear hb hbox hg) | ((with_reducible refine gate_dst (N := 3) rfl ?_); refine box_event ?hg (N := 3) ?hd (cs := #[.slice A1_0 l1_0.length c1_0]) (t := 30) ?hr ?_; (case hd => rfl); (case hg => rfl); (case hr => first | (go_simp; done) | (go_simp; rfl)); intro gb286 hg w12 hbox hb; have n0_ := AZ.mk (bb_ (g := gb285) (o := .cells #[.slice A0_0 l0_0.length c0_0] 30 (0, 0)) (by (with_reducible repeat (first | refine bn_ ?_ _ | refine bd_ ?_ | refine ba_ ?_ _)); exact BK285.out) hb); have n1_ := AZ.mk (pT (by repeat (first | (with_reducible first | exact HB.out | apply pA | apply pN | apply pD | refine pS ?_ GE285.out) | exact HB.out)) hb); have n2_ := AZ.mk (hbox); have n3_ := AZ.mk ((by rw [hg]; exact (pZ (by repeat (first | (with_reducible first | exact HB.out | apply pA | apply pN | apply pD | refine pS ?_ GE285.out) | exact HB.out))) : w.heap.size ≤ gb286)); have n4_ := AZ.mk ((by rw [hg]; exact (pZ (by repeat (first | (with_reducible first | exact HB.out | apply pA | apply pN | apply pD | refine pS ?_ GE285.out) | exact HB.out))) : w.heap.size ≤ gb286)); have n5_ := AZ.mk ((by rw [hg]; exact Nat.ne_of_lt (blk_lt (g := gb285) (o := .cells #[.slice A0_0 l0_0.length c0_0] 30 (0, 0)) (by (with_reducible repeat (first | refine bn_ ?_ _ | refine bd_ ?_ | refine ba_ ?_ _)); exact BK285.out)) : gb285 ≠ gb286)); have n6_ := AZ.mk ((by rw [hg]; exact Nat.ne_of_gt (blk_lt (g := gb285) (o := .cells #[.slice A0_0 l0_0.length c0_0] 30 (0, 0)) (by (with_reducible repeat (first | refine bn_ ?_ _ | refine bd_ ?_ | refine ba_ ?_ _)); exact BK285.out)) : gb286 ≠ gb285)); clear BK285; clear HB; have BK285 := n0_; have HB := n1_; have BK286 := n2_; have GW286 := n3_; have GE286 := n4_; have NB285_286 := n5_; have NB286_285 := n6_; clear n0_ n1_ n2_ n3_ n4_ n5_ n6_; clear hb hbox hg; have hnb13 := NB285_286.out; have hnc13 := NB286_285.out; have hcz14_0 : w12.cell? ⟨gb285, 0, none⟩ = some (.slice A0_0 l0_0.length c0_0) := (bc BK285.out 0).trans rfl; have hfz14_0 := bf BK285.out 0; have hcz15_0 : w12.cell? ⟨gb286, 0, none⟩ = some (.slice A1_0 l1_0.length c1_0) := (bc BK286.out 0).trans rfl; have hfz15_0 := bf BK286.out 0) | ((with_reducible refine gate_callee (f := 21) rfl ?_); refine goesL_ (some 9) rfl rfl Try.func21 (by kernel_rfl) rfl #[.slice A0_0 l0_0.length c0_0, .slice A1_0 l1_0.length c1_0] rfl (by (try simp only [List.map_toArray, List.map_cons, List.map_nil]); first | done | rfl | (simp only [List.length_drop, List.length_take]; rfl)) ?_; (with_reducible refine (laws_eqQueryStepS.calls k _ _ l0_0 _ _ l1_0 false _ ?side1 ?side2 ?side3 ?side4 A3.out).mono ?_); (case side1 => repeat (first | exact (Kd.C_below HR0_0.out HB.out) | (with_reducible refine Kd.C_alloc ?_ _) | (with_reducible refine Kd.C_drewN ?_ _) | (with_reducible refine Kd.C_drew ?_))); (case side2 => exact HC0_0.out); (case side3 => repeat (first | exact (Kd.C_below HR1_0.out HB.out) | (with_reducible refine Kd.C_alloc ?_ _) | (with_reducible refine Kd.C_drewN ?_ _) | (with_reducible refine Kd.C_drew ?_))); (case side4 => exact HC1_0.out); rintro e w16 ⟨rfl, hb⟩; refine ⟨_, rfl, ?_⟩; have n0_ := AZ.mk (bb_ (g := gb285) (o := .cells #[.slice A0_0 l0_0.length c0_0] 30 (0, 0)) (by (with_reducible repeat (first | refine bn_ ?_ _ | refine bd_ ?_ | refine ba_ ?_ _)); exact BK285.out) hb); have n1_ := AZ.mk (bb_ (g := gb286) (o := .cells #[.slice A1_0 l1_0.length c1_0] 30 (0, 0)) (by (with_reducible repeat (first | refine bn_ ?_ _ | refine bd_ ?_ | refine ba_ ?_ _)); exact BK286.out) hb); have n2_ := AZ.mk (pT (by repeat (first | (with_reducible first | exact HB.out | apply pA | apply pN | apply pD | refine pS ?_ GE285.out | refine pS ?_ GE286.out) | exact HB.out)) hb); clear BK285; clear BK286; clear HB; have BK285 := n0_; have BK286 := n1_; have HB := n2_; clear n0_ n1_ n2_; (try clear hb); (try clear hb2); (try clear hk); (try clear hi)))
 go_ret
 exact ⟨by first | rfl | (simp [errW_none, errW_some] <;> rfl) | (simp [*, errW_none, errW_some] <;> rfl), by repeat (first | (with_reducible first | exact HB.out | apply pA | apply pN | apply pD | refine pS ?_ GE285.out | refine pS ?_ GE286.out) | exact HB.out)⟩
end Go.Proofs.Yteeplponconnjaa.P
namespace Go.Proofs.Yteeplponconnjaa.P
open Go.RowKit Go.Proofs.YteeplponconnjaaW.PrintWords Go.Proofs.YteeplponconnjaaW.PrintLast Go.Proofs.YteeplponconnjaaW.PrintMore
attribute [local go_sem] max2_int min2_int max_two min_two max_three min_three max_four min_four
set_option linter.unusedVariables false
set_option linter.unusedSimpArgs false
def spec_l05Test.f (a0 : ByteArray) : Option (Bool) := if a0.toList = ([40] : List UInt8) then (some true) else (if a0.toList = ([91] : List UInt8) then (some true) else (if a0.toList = ([97] : List UInt8) then (some true) else (if a0.toList = ([98] : List UInt8) then (some true) else (if a0.toList = ([42] : List UInt8) then (some true) else (some (a0.toList == ([46] : List UInt8)))))))
set_option maxHeartbeats 8000000 in
set_option maxRecDepth 100000 in
theorem spec_l05Test.calls (a0 : ByteArray) (r : Bool) (w : World) (h : spec_l05Test.f a0 = some r) :
  Calls Try.prog 45 #[.string a0] w fun e w' => e = .returned (.bool r) ∧ Drawn0 w w' := by
 have H : (if a0.toList = ([40] : List UInt8) then (some true) else (if a0.toList = ([91] : List UInt8) then (some true) else (if a0.toList = ([97] : List UInt8) then (some true) else (if a0.toList = ([98] : List UInt8) then (some true) else (if a0.toList = ([42] : List UInt8) then (some true) else (some (a0.toList == ([46] : List UInt8)))))))) = some r := h
 clear h
 by_cases c2 : a0.toList = ([40] : List UInt8)
 ·rw [if_pos c2] at H
  have c2b0 : (a0.toList == ([40] : List UInt8)) = true := beq_iff_eq.mpr c2
  have c2b1 : (a0.toList != ([40] : List UInt8)) = false := bne_eq_false_iff_eq.mpr c2
  clear c2
  obtain rfl := Option.some.inj H
  go_enter Try.func45, Try.ntmps45
  go_wp2
  go_ret
  exact ⟨by first | rfl | (simp; done) | (simp [*]; done), by repeat (first | exact Drawn0.refl _ | apply Drawn0.step)⟩
 rw [if_neg c2] at H
 have c2b0 : (a0.toList == ([40] : List UInt8)) = false := beq_eq_false_iff_ne.mpr c2
 have c2b1 : (a0.toList != ([40] : List UInt8)) = true := bne_iff_ne.mpr c2
 by_cases c3 : a0.toList = ([91] : List UInt8)
 ·rw [if_pos c3] at H
  have c3b0 : (a0.toList == ([91] : List UInt8)) = true := beq_iff_eq.mpr c3
  have c3b1 : (a0.toList != ([91] : List UInt8)) = false := bne_eq_false_iff_eq.mpr c3
  clear c3
  obtain rfl := Option.some.inj H
  go_enter Try.func45, Try.ntmps45
  go_wp2
  go_ret
  exact ⟨by first | rfl | (simp; done) | (simp [*]; done), by repeat (first | exact Drawn0.refl _ | apply Drawn0.step)⟩
 rw [if_neg c3] at H
 have c3b0 : (a0.toList == ([91] : List UInt8)) = false := beq_eq_false_iff_ne.mpr c3
 have c3b1 : (a0.toList != ([91] : List UInt8)) = true := bne_iff_ne.mpr c3
 by_cases c4 : a0.toList = ([97] : List UInt8)
 ·rw [if_pos c4] at H
  have c4b0 : (a0.toList == ([97] : List UInt8)) = true := beq_iff_eq.mpr c4
  have c4b1 : (a0.toList != ([97] : List UInt8)) = false := bne_eq_false_iff_eq.mpr c4
  clear c4
  obtain rfl := Option.some.inj H
  go_enter Try.func45, Try.ntmps45
  go_wp2
  go_ret
  exact ⟨by first | rfl | (simp; done) | (simp [*]; done), by repeat (first | exact Drawn0.refl _ | apply Drawn0.step)⟩
 rw [if_neg c4] at H
 have c4b0 : (a0.toList == ([97] : List UInt8)) = false := beq_eq_false_iff_ne.mpr c4
 have c4b1 : (a0.toList != ([97] : List UInt8)) = true := bne_iff_ne.mpr c4
 by_cases c5 : a0.toList = ([98] : List UInt8)
 ·rw [if_pos c5] at H
  have c5b0 : (a0.toList == ([98] : List UInt8)) = true := beq_iff_eq.mpr c5
  have c5b1 : (a0.toList != ([98] : List UInt8)) = false := bne_eq_false_iff_eq.mpr c5
  clear c5
  obtain rfl := Option.some.inj H
  go_enter Try.func45, Try.ntmps45
  go_wp2
  go_ret
  exact ⟨by first | rfl | (simp; done) | (simp [*]; done), by repeat (first | exact Drawn0.refl _ | apply Drawn0.step)⟩
 rw [if_neg c5] at H
 have c5b0 : (a0.toList == ([98] : List UInt8)) = false := beq_eq_false_iff_ne.mpr c5
 have c5b1 : (a0.toList != ([98] : List UInt8)) = true := bne_iff_ne.mpr c5
 by_cases c6 : a0.toList = ([42] : List UInt8)
 rotate_left
 ·rw [if_neg c6] at H
  have c6b0 : (a0.toList == ([42] : List UInt8)) = false := beq_eq_false_iff_ne.mpr c6
  have c6b1 : (a0.toList != ([42] : List UInt8)) = true := bne_iff_ne.mpr c6
  obtain rfl := Option.some.inj H
  go_enter Try.func45, Try.ntmps45
  go_wp2
  go_ret
  exact ⟨by first | rfl | (simp; done) | (simp [*]; done), by repeat (first | exact Drawn0.refl _ | apply Drawn0.step)⟩
 rw [if_pos c6] at H
 have c6b0 : (a0.toList == ([42] : List UInt8)) = true := beq_iff_eq.mpr c6
 have c6b1 : (a0.toList != ([42] : List UInt8)) = false := bne_eq_false_iff_eq.mpr c6
 clear c6
 obtain rfl := Option.some.inj H
 go_enter Try.func45, Try.ntmps45
 go_wp2
 go_ret
 exact ⟨by first | rfl | (simp; done) | (simp [*]; done), by repeat (first | exact Drawn0.refl _ | apply Drawn0.step)⟩
end Go.Proofs.Yteeplponconnjaa.P
namespace Go.Proofs.Yteeplponconnjaa.P
open Go.RowKit Go.Proofs.YteeplponconnjaaW.PrintWords Go.Proofs.YteeplponconnjaaW.PrintLast Go.Proofs.YteeplponconnjaaW.PrintMore
attribute [local go_sem] max2_int min2_int max_two min_two max_three min_three max_four min_four
set_option linter.unusedVariables false
set_option linter.unusedSimpArgs false
def spec_l00In.f (a0 : Int) (a1 : Int) (a2 : Int) : Option (Bool) := if a0 ≥ a1 then (some (decide (a0 ≤ a2))) else (some false)
set_option maxHeartbeats 8000000 in
set_option maxRecDepth 100000 in
theorem spec_l00In.calls (a0 : Int) (a1 : Int) (a2 : Int) (r : Bool) (w : World) (h : spec_l00In.f a0 a1 a2 = some r) :
  Calls Try.prog 46 #[.int .i64 a0, .int .i64 a1, .int .i64 a2] w fun e w' => e = .returned (.bool r) ∧ Drawn0 w w' := by
 have H : (if a0 ≥ a1 then (some (decide (a0 ≤ a2))) else (some false)) = some r := h
 clear h
 by_cases c4 : a0 ≥ a1
 ·rw [if_pos c4] at H
  have c4b0 : decide (a1 ≤ a0) = true := decide_eq_true c4
  clear c4
  obtain rfl := Option.some.inj H
  go_enter Try.func46, Try.ntmps46
  go_wp2
  go_ret
  exact ⟨by first | rfl | (simp; done) | (simp [*]; done), by repeat (first | exact Drawn0.refl _ | apply Drawn0.step)⟩
 rw [if_neg c4] at H
 have c4b0 : decide (a1 ≤ a0) = false := decide_eq_false c4
 clear c4
 obtain rfl := Option.some.inj H
 go_enter Try.func46, Try.ntmps46
 go_wp2
 go_ret
 exact ⟨by first | rfl | (simp; done) | (simp [*]; done), by repeat (first | exact Drawn0.refl _ | apply Drawn0.step)⟩
end Go.Proofs.Yteeplponconnjaa.P
namespace Go.Proofs.Yteeplponconnjaa.P
open Go.RowKit Go.Proofs.YteeplponconnjaaW.PrintWords Go.Proofs.YteeplponconnjaaW.PrintLast Go.Proofs.YteeplponconnjaaW.PrintMore
attribute [local go_sem] max2_int min2_int max_two min_two max_three min_three max_four min_four
set_option linter.unusedVariables false
set_option linter.unusedSimpArgs false
def spec_l05Ok.l0 : Nat → Int → List (S62) → Option (Bool)
 | 0, _, _ => none
 | k + 1, x3, x1000 => if x3 < (x1000.length : Int) then (if 0 ≤ x3 then ((spec_l05Test.f ((rd_T62 x1000 x3).f1)).bind fun t107 => (if t107 = true then (spec_l05Ok.l0 k (wrap64 (x3 + 1)) x1000) else (some false))) else (none)) else ((spec_l00In.f (x1000.length : Int) 1 6).bind fun t108 => (some t108))
def spec_l05Ok.f (k : Nat) (l0_0 : List (S62)) : Option (Bool) := spec_l05Ok.l0 k 0 l0_0
set_option maxHeartbeats 8000000 in
set_option maxRecDepth 100000 in
theorem spec_l05Ok.calls (k : Nat) (g0_ : Nat) (A0_0 : Option Addr) (c0_0 : Nat) (l0_0 : List (S62)) (r : Bool) (w : World) (hr0_0 : Kd.C k62 w A0_0 l0_0.length l0_0) (hc0_0 : l0_0.length ≤ c0_0) (hbk0_0 : w.heap[g0_]? = some (.cells #[.slice A0_0 l0_0.length c0_0] 30 (0, 0))) (h : spec_l05Ok.f k l0_0 = some r) :
  Calls Try.prog 28 #[.pointer (some ⟨g0_, 0, none⟩)] w fun e w' => e = .returned (.bool r) ∧ Drawn0 w w' := by
 have HR0_0 := AZ.mk hr0_0
 have HC0_0 := AZ.mk hc0_0
 clear hr0_0 hc0_0
 have BK0 := AZ.mk hbk0_0
 clear hbk0_0
 have H : (spec_l05Ok.l0 k 0 l0_0) = some r := h
 clear h
 have H' := AZ.mk H
 clear H
 go_enter Try.func28, Try.ntmps28
 go_wp2
 go_loopg [3] k (fun kq v3 w' => ∃ (x3_1 : Int), v3 = .int .i64 x3_1 ∧ AZ (spec_l05Ok.l0 kq x3_1 l0_0 = some r) ∧ AZ (kq ≤ k) ∧ Drawn0 w w')
 case atStart => exact ⟨(0), (by first | rfl | (simp; done) | (simp [*]; done)), H', ⟨Nat.le_refl _⟩, by repeat (first | exact Drawn0.refl _ | apply Drawn0.step)⟩
 case round =>
  clear H'
  obtain ⟨x3_1, rfl, HA, HK1, ⟨m1, rfl⟩⟩ := hrel
  cases gk with
  | zero => exact absurd HA.out (by simp [spec_l05Ok.l0])
  | succ k1 =>
   have H := HA.out
   clear HA
   simp only [spec_l05Ok.l0] at H
   by_cases c2 : x3_1 < (l0_0.length : Int)
   rotate_left
   ·rw [if_neg c2] at H
    have c2b0 : decide (x3_1 < (l0_0.length : Int)) = false := decide_eq_false c2
    clear c2
    replace H := Option.bind_eq_some_iff.mp H
    obtain ⟨t108, A80, H⟩ := H
    replace H : (some t108) = some r := H
    have A8 := AZ.mk A80
    clear A80
    obtain rfl := Option.some.inj H
    have hcz9_0 : w.cell? ⟨g0_, 0, none⟩ = some (.slice A0_0 l0_0.length c0_0) := (bc BK0.out 0).trans rfl
    have hfz9_0 := bf BK0.out 0
    go_wp2_with (first | ((with_reducible refine gate_callee (f := 46) rfl ?_); refine goesL_ (some 28) rfl rfl Try.func46 (by kernel_rfl) rfl #[.int .i64 (l0_0.length : Int), .int .i64 1, .int .i64 6] rfl (by (try simp only [List.map_toArray, List.map_cons, List.map_nil]); first | done | rfl | (simp only [List.length_drop, List.length_take]; rfl)) ?_; (with_reducible refine (spec_l00In.calls (l0_0.length : Int) 1 6 t108 _ A8.out).mono ?_); rintro e w' ⟨rfl, ⟨nd, rfl⟩⟩; refine ⟨_, rfl, ?_⟩))
    go_ret
    exact ⟨by first | rfl | (simp; done) | (simp [*]; done), by repeat (first | exact Drawn0.refl _ | apply Drawn0.step)⟩
   rw [if_pos c2] at H
   have c2b0 : decide (x3_1 < (l0_0.length : Int)) = true := decide_eq_true c2
   clear c2
   by_cases c3 : 0 ≤ x3_1
   rotate_left
   ·rw [if_neg c3] at H
    exact absurd H (by simp)
   rw [if_pos c3] at H
   have c3b0 : decide (0 ≤ x3_1) = true := decide_eq_true c3
   clear c3
   replace H := Option.bind_eq_some_iff.mp H
   obtain ⟨t107, A40, H⟩ := H
   replace H : (if t107 = true then (spec_l05Ok.l0 k1 (wrap64 (x3_1 + 1)) l0_0) else (some false)) = some r := H
   have A4 := AZ.mk A40
   clear A40
   by_cases c5 : t107 = true
   rotate_left
   ·replace c5 := Bool.eq_false_iff.mpr c5
    subst c5
    have H1 : (some false) = some r := by rw [if_neg (show ¬ (false = true) by decide)] at H; exact H
    clear H
    have H := H1
    clear H1
    obtain rfl := Option.some.inj H
    have hcz7_0 : w.cell? ⟨g0_, 0, none⟩ = some (.slice A0_0 l0_0.length c0_0) := (bc BK0.out 0).trans rfl
    have hfz7_0 := bf BK0.out 0
    have p106 : 0 ≤ (x3_1 : Int) := oT (by first | (with_reducible assumption) | assumption)
    have q106 : x3_1 < (l0_0.length : Int) := oT (by first | (with_reducible assumption) | assumption)
    obtain ⟨ad106, e106, hx106_0, hx106_1⟩ := at_T62 HR0_0.out x3_1 p106 q106
    cases e106
    replace p106 := eq_true p106
    replace q106 := eq_true q106
    go_wp2_with (first | ((with_reducible refine gate_callee (f := 45) rfl ?_); refine goesL_ (some 21) rfl rfl Try.func45 (by kernel_rfl) rfl #[.string ((rd_T62 l0_0 x3_1).f1)] rfl (by (try simp only [List.map_toArray, List.map_cons, List.map_nil]); first | done | rfl | (simp only [List.length_drop, List.length_take]; rfl)) ?_; (with_reducible refine (spec_l05Test.calls ((rd_T62 l0_0 x3_1).f1) false _ A4.out).mono ?_); rintro e w' ⟨rfl, ⟨nd, rfl⟩⟩; refine ⟨_, rfl, ?_⟩))
    go_ret
    exact ⟨by first | rfl | (simp; done) | (simp [*]; done), by repeat (first | exact Drawn0.refl _ | apply Drawn0.step)⟩
   subst c5
   have H1 : (spec_l05Ok.l0 k1 (wrap64 (x3_1 + 1)) l0_0) = some r := by rw [if_pos rfl] at H; exact H
   clear H
   have H := H1
   clear H1
   have H' := AZ.mk H
   clear H
   have hcz6_0 : w.cell? ⟨g0_, 0, none⟩ = some (.slice A0_0 l0_0.length c0_0) := (bc BK0.out 0).trans rfl
   have hfz6_0 := bf BK0.out 0
   have p106 : 0 ≤ (x3_1 : Int) := oT (by first | (with_reducible assumption) | assumption)
   have q106 : x3_1 < (l0_0.length : Int) := oT (by first | (with_reducible assumption) | assumption)
   obtain ⟨ad106, e106, hx106_0, hx106_1⟩ := at_T62 HR0_0.out x3_1 p106 q106
   cases e106
   replace p106 := eq_true p106
   replace q106 := eq_true q106
   go_wp2_with (first | ((with_reducible refine gate_callee (f := 45) rfl ?_); refine goesL_ (some 21) rfl rfl Try.func45 (by kernel_rfl) rfl #[.string ((rd_T62 l0_0 x3_1).f1)] rfl (by (try simp only [List.map_toArray, List.map_cons, List.map_nil]); first | done | rfl | (simp only [List.length_drop, List.length_take]; rfl)) ?_; (with_reducible refine (spec_l05Test.calls ((rd_T62 l0_0 x3_1).f1) true _ A4.out).mono ?_); rintro e w' ⟨rfl, ⟨nd, rfl⟩⟩; refine ⟨_, rfl, ?_⟩))
   go_roundg k1
   case measure => have := HK1.out; omega
   case rel => exact ⟨(wrap64 (x3_1 + 1)), (by first | rfl | (simp; done) | (simp [*]; done)), H', ⟨by have := HK1.out; omega⟩, by repeat (first | exact Drawn0.refl _ | apply Drawn0.step)⟩
end Go.Proofs.Yteeplponconnjaa.P
namespace Go.Proofs.Yteeplponconnjaa.P
open Go.RowKit Go.Proofs.YteeplponconnjaaW.PrintWords Go.Proofs.YteeplponconnjaaW.PrintLast Go.Proofs.YteeplponconnjaaW.PrintMore
attribute [local go_sem] max2_int min2_int max_two min_two max_three min_three max_four min_four
set_option linter.unusedVariables false
set_option linter.unusedSimpArgs false
def spec_l01Symbol.l0 : Nat → Int → Int → Option (Int)
 | 0, _, _ => none
 | k + 1, x0, x3 => if x3 < 6 then (if 0 ≤ x3 then (if (bt (⟨#[40, 91, 41, 93, 97, 98]⟩ : ByteArray) x3) = x0 then (some x3) else (spec_l01Symbol.l0 k x0 (wrap64 (x3 + 1)))) else (none)) else (some (-1))
def spec_l01Symbol.f (k : Nat) (a0 : Int) : Option (Int) := spec_l01Symbol.l0 k a0 0
set_option maxHeartbeats 8000000 in
set_option maxRecDepth 100000 in
theorem spec_l01Symbol.calls (k : Nat) (a0 : Int) (r : Int) (w : World) (h : spec_l01Symbol.f k a0 = some r) :
  Calls Try.prog 47 #[.int .u8 a0] w fun e w' => e = .returned (.int .i64 r) ∧ Drawn0 w w' := by
 have H : (spec_l01Symbol.l0 k a0 0) = some r := h
 clear h
 have H' := AZ.mk H
 clear H
 go_enter Try.func47, Try.ntmps47
 go_wp2
 go_loopg [3] k (fun kq v3 w' => ∃ (x3_1 : Int), v3 = .int .i64 x3_1 ∧ AZ (spec_l01Symbol.l0 kq a0 x3_1 = some r) ∧ AZ (kq ≤ k) ∧ Drawn0 w w')
 case atStart => exact ⟨(0), (by first | rfl | (simp; done) | (simp [*]; done)), H', ⟨Nat.le_refl _⟩, by repeat (first | exact Drawn0.refl _ | apply Drawn0.step)⟩
 case round =>
  clear H'
  obtain ⟨x3_1, rfl, HA, HK1, ⟨m1, rfl⟩⟩ := hrel
  cases gk with
  | zero => exact absurd HA.out (by simp [spec_l01Symbol.l0])
  | succ k1 =>
   have H := HA.out
   clear HA
   simp only [spec_l01Symbol.l0] at H
   by_cases c2 : x3_1 < 6
   rotate_left
   ·rw [if_neg c2] at H
    have c2b0 : decide (x3_1 < 6) = false := decide_eq_false c2
    clear c2
    obtain rfl := Option.some.inj H
    go_wp2
    go_ret
    exact ⟨by first | rfl | (simp; done) | (simp [*]; done), by repeat (first | exact Drawn0.refl _ | apply Drawn0.step)⟩
   rw [if_pos c2] at H
   have c2b0 : decide (x3_1 < 6) = true := decide_eq_true c2
   clear c2
   by_cases c3 : 0 ≤ x3_1
   rotate_left
   ·rw [if_neg c3] at H
    exact absurd H (by simp)
   rw [if_pos c3] at H
   have c3b0 : decide (0 ≤ x3_1) = true := decide_eq_true c3
   clear c3
   by_cases c5 : (bt (⟨#[40, 91, 41, 93, 97, 98]⟩ : ByteArray) x3_1) = a0
   ·rw [if_pos c5] at H
    have c5b0 : ((bt (⟨#[40, 91, 41, 93, 97, 98]⟩ : ByteArray) x3_1) == a0) = true := beq_iff_eq.mpr c5
    have c5b1 : ((bt (⟨#[40, 91, 41, 93, 97, 98]⟩ : ByteArray) x3_1) != a0) = false := bne_eq_false_iff_eq.mpr c5
    clear c5
    obtain rfl := Option.some.inj H
    have p4 : 0 ≤ (x3_1 : Int) := oT (by first | (with_reducible assumption) | assumption)
    have q4 : x3_1 < (6 : Int) := oT (by first | (with_reducible assumption) | assumption)
    have hx4 := bt_at (⟨#[40, 91, 41, 93, 97, 98]⟩ : ByteArray) x3_1
    replace p4 := eq_true p4
    replace q4 := eq_true q4
    go_wp2
    go_ret
    exact ⟨by first | rfl | (simp; done) | (simp [*]; done), by repeat (first | exact Drawn0.refl _ | apply Drawn0.step)⟩
   rw [if_neg c5] at H
   have c5b0 : ((bt (⟨#[40, 91, 41, 93, 97, 98]⟩ : ByteArray) x3_1) == a0) = false := beq_eq_false_iff_ne.mpr c5
   have c5b1 : ((bt (⟨#[40, 91, 41, 93, 97, 98]⟩ : ByteArray) x3_1) != a0) = true := bne_iff_ne.mpr c5
   have H' := AZ.mk H
   clear H
   have p4 : 0 ≤ (x3_1 : Int) := oT (by first | (with_reducible assumption) | assumption)
   have q4 : x3_1 < (6 : Int) := oT (by first | (with_reducible assumption) | assumption)
   have hx4 := bt_at (⟨#[40, 91, 41, 93, 97, 98]⟩ : ByteArray) x3_1
   replace p4 := eq_true p4
   replace q4 := eq_true q4
   go_wp2
   go_roundg k1
   case measure => have := HK1.out; omega
   case rel => exact ⟨(wrap64 (x3_1 + 1)), (by first | rfl | (simp; done) | (simp [*]; done)), H', ⟨by have := HK1.out; omega⟩, by repeat (first | exact Drawn0.refl _ | apply Drawn0.step)⟩
end Go.Proofs.Yteeplponconnjaa.P
namespace Go.Proofs.Yteeplponconnjaa.P
open Go.RowKit Go.Proofs.YteeplponconnjaaW.PrintWords Go.Proofs.YteeplponconnjaaW.PrintLast Go.Proofs.YteeplponconnjaaW.PrintMore
attribute [local go_sem] max2_int min2_int max_two min_two max_three min_three max_four min_four
set_option linter.unusedVariables false
set_option linter.unusedSimpArgs false
def spec_l01Ok.l0 : Nat → ByteArray → Int → Option (Bool)
 | 0, _, _ => none
 | k + 1, x0, x3 => if x3 < (x0.size : Int) then (if 0 ≤ x3 then ((spec_l01Symbol.f k (bt x0 x3)).bind fun t109 => (if t109 < 0 then (some false) else (spec_l01Ok.l0 k x0 (wrap64 (x3 + 1))))) else (none)) else (some (decide ((x0.size : Int) ≤ 60)))
def spec_l01Ok.f (k : Nat) (a0 : ByteArray) : Option (Bool) := spec_l01Ok.l0 k a0 0
set_option maxHeartbeats 8000000 in
set_option maxRecDepth 100000 in
theorem spec_l01Ok.calls (k : Nat) (a0 : ByteArray) (r : Bool) (w : World) (h : spec_l01Ok.f k a0 = some r) :
  Calls Try.prog 29 #[.string a0] w fun e w' => e = .returned (.bool r) ∧ Drawn0 w w' := by
 have H : (spec_l01Ok.l0 k a0 0) = some r := h
 clear h
 have H' := AZ.mk H
 clear H
 go_enter Try.func29, Try.ntmps29
 go_wp2
 go_loopg [3] k (fun kq v3 w' => ∃ (x3_1 : Int), v3 = .int .i64 x3_1 ∧ AZ (spec_l01Ok.l0 kq a0 x3_1 = some r) ∧ AZ (kq ≤ k) ∧ Drawn0 w w')
 case atStart => exact ⟨(0), (by first | rfl | (simp; done) | (simp [*]; done)), H', ⟨Nat.le_refl _⟩, by repeat (first | exact Drawn0.refl _ | apply Drawn0.step)⟩
 case round =>
  clear H'
  obtain ⟨x3_1, rfl, HA, HK1, ⟨m1, rfl⟩⟩ := hrel
  cases gk with
  | zero => exact absurd HA.out (by simp [spec_l01Ok.l0])
  | succ k1 =>
   have H := HA.out
   clear HA
   simp only [spec_l01Ok.l0] at H
   by_cases c2 : x3_1 < (a0.size : Int)
   rotate_left
   ·rw [if_neg c2] at H
    have c2b0 : decide (x3_1 < (a0.size : Int)) = false := decide_eq_false c2
    clear c2
    obtain rfl := Option.some.inj H
    go_wp2
    go_ret
    exact ⟨by first | rfl | (simp; done) | (simp [*]; done), by repeat (first | exact Drawn0.refl _ | apply Drawn0.step)⟩
   rw [if_pos c2] at H
   have c2b0 : decide (x3_1 < (a0.size : Int)) = true := decide_eq_true c2
   clear c2
   by_cases c3 : 0 ≤ x3_1
   rotate_left
   ·rw [if_neg c3] at H
    exact absurd H (by simp)
   rw [if_pos c3] at H
   have c3b0 : decide (0 ≤ x3_1) = true := decide_eq_true c3
   clear c3
   replace H := Option.bind_eq_some_iff.mp H
   obtain ⟨t109, A50, H⟩ := H
   replace H : (if t109 < 0 then (some false) else (spec_l01Ok.l0 k1 a0 (wrap64 (x3_1 + 1)))) = some r := H
   have A5 := AZ.mk A50
   clear A50
   by_cases c6 : t109 < 0
   ·rw [if_pos c6] at H
    have c6b0 : decide (t109 < 0) = true := decide_eq_true c6
    clear c6
    obtain rfl := Option.some.inj H
    have p4 : 0 ≤ (x3_1 : Int) := oT (by first | (with_reducible assumption) | assumption)
    have q4 : x3_1 < (a0.size : Int) := oT (by first | (with_reducible assumption) | assumption)
    have hx4 := bt_at a0 x3_1
    replace p4 := eq_true p4
    replace q4 := eq_true q4
    go_wp2_with (first | ((with_reducible refine gate_callee (f := 47) rfl ?_); refine goesL_ (some 13) rfl rfl Try.func47 (by kernel_rfl) rfl #[.int .u8 (bt a0 x3_1)] rfl (by (try simp only [List.map_toArray, List.map_cons, List.map_nil]); first | done | rfl | (simp only [List.length_drop, List.length_take]; rfl)) ?_; (with_reducible refine (spec_l01Symbol.calls k1 (bt a0 x3_1) t109 _ A5.out).mono ?_); rintro e w' ⟨rfl, ⟨nd, rfl⟩⟩; refine ⟨_, rfl, ?_⟩))
    go_ret
    exact ⟨by first | rfl | (simp; done) | (simp [*]; done), by repeat (first | exact Drawn0.refl _ | apply Drawn0.step)⟩
   rw [if_neg c6] at H
   have c6b0 : decide (t109 < 0) = false := decide_eq_false c6
   clear c6
   have H' := AZ.mk H
   clear H
   have p4 : 0 ≤ (x3_1 : Int) := oT (by first | (with_reducible assumption) | assumption)
   have q4 : x3_1 < (a0.size : Int) := oT (by first | (with_reducible assumption) | assumption)
   have hx4 := bt_at a0 x3_1
   replace p4 := eq_true p4
   replace q4 := eq_true q4
   go_wp2_with (first | ((with_reducible refine gate_callee (f := 47) rfl ?_); refine goesL_ (some 13) rfl rfl Try.func47 (by kernel_rfl) rfl #[.int .u8 (bt a0 x3_1)] rfl (by (try simp only [List.map_toArray, List.map_cons, List.map_nil]); first | done | rfl | (simp only [List.length_drop, List.length_take]; rfl)) ?_; (with_reducible refine (spec_l01Symbol.calls k1 (bt a0 x3_1) t109 _ A5.out).mono ?_); rintro e w' ⟨rfl, ⟨nd, rfl⟩⟩; refine ⟨_, rfl, ?_⟩))
   go_roundg k1
   case measure => have := HK1.out; omega
   case rel => exact ⟨(wrap64 (x3_1 + 1)), (by first | rfl | (simp; done) | (simp [*]; done)), H', ⟨by have := HK1.out; omega⟩, by repeat (first | exact Drawn0.refl _ | apply Drawn0.step)⟩
end Go.Proofs.Yteeplponconnjaa.P
namespace Go.Proofs.Yteeplponconnjaa.P
open Go.RowKit Go.Proofs.YteeplponconnjaaW.PrintWords Go.Proofs.YteeplponconnjaaW.PrintLast Go.Proofs.YteeplponconnjaaW.PrintMore
attribute [local go_sem] max2_int min2_int max_two min_two max_three min_three max_four min_four
set_option linter.unusedVariables false
set_option linter.unusedSimpArgs false
def spec_l05Given.f (k : Nat) (l0_0 : List (S62)) (a1 : ByteArray) : Option (Int) := (spec_l05Ok.f k l0_0).bind fun t110 => (if t110 = true then ((spec_l01Ok.f k a1).bind fun t111 => (if t111 = true then (some 0) else (some 1))) else (some 1))
set_option maxHeartbeats 8000000 in
set_option maxRecDepth 100000 in
theorem spec_l05Given.calls (k : Nat) (g0_ : Nat) (A0_0 : Option Addr) (c0_0 : Nat) (l0_0 : List (S62)) (a1 : ByteArray) (r : Int) (w : World) (hr0_0 : Kd.C k62 w A0_0 l0_0.length l0_0) (hc0_0 : l0_0.length ≤ c0_0) (hbk0_0 : w.heap[g0_]? = some (.cells #[.slice A0_0 l0_0.length c0_0] 30 (0, 0))) (h : spec_l05Given.f k l0_0 a1 = some r) :
  Calls Try.prog 17 #[.pointer (some ⟨g0_, 0, none⟩), .string a1] w fun e w' => e = .returned (.int .i64 r) ∧ Drawn0 w w' := by
 have HR0_0 := AZ.mk hr0_0
 have HC0_0 := AZ.mk hc0_0
 clear hr0_0 hc0_0
 have BK0 := AZ.mk hbk0_0
 clear hbk0_0
 have H : ((spec_l05Ok.f k l0_0).bind fun t110 => (if t110 = true then ((spec_l01Ok.f k a1).bind fun t111 => (if t111 = true then (some 0) else (some 1))) else (some 1))) = some r := h
 clear h
 replace H := Option.bind_eq_some_iff.mp H
 obtain ⟨t110, A30, H⟩ := H
 replace H : (if t110 = true then ((spec_l01Ok.f k a1).bind fun t111 => (if t111 = true then (some 0) else (some 1))) else (some 1)) = some r := H
 have A3 := AZ.mk A30
 clear A30
 by_cases c4 : t110 = true
 rotate_left
 ·replace c4 := Bool.eq_false_iff.mpr c4
  subst c4
  have H1 : (some 1) = some r := by rw [if_neg (show ¬ (false = true) by decide)] at H; exact H
  clear H
  have H := H1
  clear H1
  obtain rfl := Option.some.inj H
  go_enter Try.func17, Try.ntmps17
  go_wp2_with (first | ((with_reducible refine gate_callee (f := 28) rfl ?_); refine goesL_ (some 6) rfl rfl Try.func28 (by kernel_rfl) rfl #[.pointer (some ⟨g0_, 0, none⟩)] rfl (by (try simp only [List.map_toArray, List.map_cons, List.map_nil]); first | done | rfl | (simp only [List.length_drop, List.length_take]; rfl)) ?_; (with_reducible refine (spec_l05Ok.calls k g0_ A0_0 c0_0 l0_0 false _ ?side1 ?side2 ?side3 A3.out).mono ?_); (case side1 => repeat (first | exact HR0_0.out | (with_reducible refine Kd.C_alloc ?_ _) | (with_reducible refine Kd.C_drewN ?_ _) | (with_reducible refine Kd.C_drew ?_))); (case side2 => exact HC0_0.out); (case side3 => exact (by (with_reducible repeat (first | refine bn_ ?_ _ | refine bd_ ?_ | refine ba_ ?_ _)); exact BK0.out)); rintro e w' ⟨rfl, ⟨nd, rfl⟩⟩; refine ⟨_, rfl, ?_⟩))
  go_ret
  exact ⟨by first | rfl | (simp; done) | (simp [*]; done), by repeat (first | exact Drawn0.refl _ | apply Drawn0.step)⟩
 subst c4
 have H1 : ((spec_l01Ok.f k a1).bind fun t111 => (if t111 = true then (some 0) else (some 1))) = some r := by rw [if_pos rfl] at H; exact H
 clear H
 have H := H1
 clear H1
 replace H := Option.bind_eq_some_iff.mp H
 obtain ⟨t111, A50, H⟩ := H
 replace H : (if t111 = true then (some 0) else (some 1)) = some r := H
 have A5 := AZ.mk A50
 clear A50
 by_cases c6 : t111 = true
 ·subst c6
  have H1 : (some 0) = some r := by rw [if_pos rfl] at H; exact H
  clear H
  have H := H1
  clear H1
  obtain rfl := Option.some.inj H
  go_enter Try.func17, Try.ntmps17
  go_wp2_with (first | ((with_reducible refine gate_callee (f := 28) rfl ?_); refine goesL_ (some 6) rfl rfl Try.func28 (by kernel_rfl) rfl #[.pointer (some ⟨g0_, 0, none⟩)] rfl (by (try simp only [List.map_toArray, List.map_cons, List.map_nil]); first | done | rfl | (simp only [List.length_drop, List.length_take]; rfl)) ?_; (with_reducible refine (spec_l05Ok.calls k g0_ A0_0 c0_0 l0_0 true _ ?side1 ?side2 ?side3 A3.out).mono ?_); (case side1 => repeat (first | exact HR0_0.out | (with_reducible refine Kd.C_alloc ?_ _) | (with_reducible refine Kd.C_drewN ?_ _) | (with_reducible refine Kd.C_drew ?_))); (case side2 => exact HC0_0.out); (case side3 => exact (by (with_reducible repeat (first | refine bn_ ?_ _ | refine bd_ ?_ | refine ba_ ?_ _)); exact BK0.out)); rintro e w' ⟨rfl, ⟨nd, rfl⟩⟩; refine ⟨_, rfl, ?_⟩) | (go_at_call 29; (with_reducible refine (spec_l01Ok.calls k a1 true _ A5.out).mono ?_); rintro e w' ⟨rfl, ⟨nd, rfl⟩⟩))
  go_ret
  exact ⟨by first | rfl | (simp; done) | (simp [*]; done), by repeat (first | exact Drawn0.refl _ | apply Drawn0.step)⟩
 replace c6 := Bool.eq_false_iff.mpr c6
 subst c6
 have H1 : (some 1) = some r := by rw [if_neg (show ¬ (false = true) by decide)] at H; exact H
 clear H
 have H := H1
 clear H1
 obtain rfl := Option.some.inj H
 go_enter Try.func17, Try.ntmps17
 go_wp2_with (first | ((with_reducible refine gate_callee (f := 28) rfl ?_); refine goesL_ (some 6) rfl rfl Try.func28 (by kernel_rfl) rfl #[.pointer (some ⟨g0_, 0, none⟩)] rfl (by (try simp only [List.map_toArray, List.map_cons, List.map_nil]); first | done | rfl | (simp only [List.length_drop, List.length_take]; rfl)) ?_; (with_reducible refine (spec_l05Ok.calls k g0_ A0_0 c0_0 l0_0 true _ ?side1 ?side2 ?side3 A3.out).mono ?_); (case side1 => repeat (first | exact HR0_0.out | (with_reducible refine Kd.C_alloc ?_ _) | (with_reducible refine Kd.C_drewN ?_ _) | (with_reducible refine Kd.C_drew ?_))); (case side2 => exact HC0_0.out); (case side3 => exact (by (with_reducible repeat (first | refine bn_ ?_ _ | refine bd_ ?_ | refine ba_ ?_ _)); exact BK0.out)); rintro e w' ⟨rfl, ⟨nd, rfl⟩⟩; refine ⟨_, rfl, ?_⟩) | (go_at_call 29; (with_reducible refine (spec_l01Ok.calls k a1 false _ A5.out).mono ?_); rintro e w' ⟨rfl, ⟨nd, rfl⟩⟩))
 go_ret
 exact ⟨by first | rfl | (simp; done) | (simp [*]; done), by repeat (first | exact Drawn0.refl _ | apply Drawn0.step)⟩
end Go.Proofs.Yteeplponconnjaa.P
namespace Go.Proofs.Yteeplponconnjaa.P
open Go.RowKit Go.Proofs.YteeplponconnjaaW.PrintWords Go.Proofs.YteeplponconnjaaW.PrintLast Go.Proofs.YteeplponconnjaaW.PrintMore
attribute [local go_sem] max2_int min2_int max_two min_two max_three min_three max_four min_four
set_option linter.unusedVariables false
set_option linter.unusedSimpArgs false
def spec_l01Call.f (a0 : Int) : Option (Bool) := if a0 = 40 then (some true) else (some (a0 == 91))
set_option maxHeartbeats 8000000 in
set_option maxRecDepth 100000 in
theorem spec_l01Call.calls (a0 : Int) (r : Bool) (w : World) (h : spec_l01Call.f a0 = some r) :
  Calls Try.prog 59 #[.int .u8 a0] w fun e w' => e = .returned (.bool r) ∧ Drawn0 w w' := by
 have H : (if a0 = 40 then (some true) else (some (a0 == 91))) = some r := h
 clear h
 by_cases c2 : a0 = 40
 rotate_left
 ·rw [if_neg c2] at H
  have c2b0 : (a0 == 40) = false := beq_eq_false_iff_ne.mpr c2
  have c2b1 : (a0 != 40) = true := bne_iff_ne.mpr c2
  obtain rfl := Option.some.inj H
  go_enter Try.func59, Try.ntmps59
  go_wp2
  go_ret
  exact ⟨by first | rfl | (simp; done) | (simp [*]; done), by repeat (first | exact Drawn0.refl _ | apply Drawn0.step)⟩
 rw [if_pos c2] at H
 have c2b0 : (a0 == 40) = true := beq_iff_eq.mpr c2
 have c2b1 : (a0 != 40) = false := bne_eq_false_iff_eq.mpr c2
 clear c2
 obtain rfl := Option.some.inj H
 go_enter Try.func59, Try.ntmps59
 go_wp2
 go_ret
 exact ⟨by first | rfl | (simp; done) | (simp [*]; done), by repeat (first | exact Drawn0.refl _ | apply Drawn0.step)⟩
end Go.Proofs.Yteeplponconnjaa.P
namespace Go.Proofs.Yteeplponconnjaa.P
open Go.RowKit Go.Proofs.YteeplponconnjaaW.PrintWords Go.Proofs.YteeplponconnjaaW.PrintLast Go.Proofs.YteeplponconnjaaW.PrintMore
attribute [local go_sem] max2_int min2_int max_two min_two max_three min_three max_four min_four
set_option linter.unusedVariables false
set_option linter.unusedSimpArgs false
def spec_l01Return.f (a0 : Int) : Option (Bool) := if a0 = 41 then (some true) else (some (a0 == 93))
set_option maxHeartbeats 8000000 in
set_option maxRecDepth 100000 in
theorem spec_l01Return.calls (a0 : Int) (r : Bool) (w : World) (h : spec_l01Return.f a0 = some r) :
  Calls Try.prog 60 #[.int .u8 a0] w fun e w' => e = .returned (.bool r) ∧ Drawn0 w w' := by
 have H : (if a0 = 41 then (some true) else (some (a0 == 93))) = some r := h
 clear h
 by_cases c2 : a0 = 41
 rotate_left
 ·rw [if_neg c2] at H
  have c2b0 : (a0 == 41) = false := beq_eq_false_iff_ne.mpr c2
  have c2b1 : (a0 != 41) = true := bne_iff_ne.mpr c2
  obtain rfl := Option.some.inj H
  go_enter Try.func60, Try.ntmps60
  go_wp2
  go_ret
  exact ⟨by first | rfl | (simp; done) | (simp [*]; done), by repeat (first | exact Drawn0.refl _ | apply Drawn0.step)⟩
 rw [if_pos c2] at H
 have c2b0 : (a0 == 41) = true := beq_iff_eq.mpr c2
 have c2b1 : (a0 != 41) = false := bne_eq_false_iff_eq.mpr c2
 clear c2
 obtain rfl := Option.some.inj H
 go_enter Try.func60, Try.ntmps60
 go_wp2
 go_ret
 exact ⟨by first | rfl | (simp; done) | (simp [*]; done), by repeat (first | exact Drawn0.refl _ | apply Drawn0.step)⟩
end Go.Proofs.Yteeplponconnjaa.P
namespace Go.Proofs.Yteeplponconnjaa.P
open Go.RowKit Go.Proofs.YteeplponconnjaaW.PrintWords Go.Proofs.YteeplponconnjaaW.PrintLast Go.Proofs.YteeplponconnjaaW.PrintMore
attribute [local go_sem] max2_int min2_int max_two min_two max_three min_three max_four min_four
set_option linter.unusedVariables false
set_option linter.unusedSimpArgs false
mutual
def spec_l01Partners.l0 : Nat → ByteArray → List Int → List Int → Int → Option (List Int)
 | 0, _, _, _, _ => none
 | k + 1, x0, x3, x4, x5 => if x5 < (x0.size : Int) then (if 0 ≤ x5 then ((spec_l01Call.f (bt x0 x5)).bind fun t118 => (if t118 = true then (if x3.length < 17592186044416 then (if x4.length < 17592186044416 then (spec_l01Partners.l0 k x0 (x3 ++ [(-2)]) (x4 ++ [x5]) (wrap64 (x5 + 1))) else (none)) else (none)) else ((spec_l01Return.f (bt x0 x5)).bind fun t125 => (if t125 = true then (spec_l01Partners.j1 k x0 x3 x4 x5 (decide ((x4.length : Int) > 0))) else (spec_l01Partners.j1 k x0 x3 x4 x5 false))))) else (none)) else (some x3)
def spec_l01Partners.j1 : Nat → ByteArray → List Int → List Int → Int → Bool → Option (List Int)
 | 0, _, _, _, _, _ => none
 | k + 1, x0, x3, x4, x5, x30 => if x30 = true then (if 0 ≤ (wrap64 ((x4.length : Int) - 1)) then (if (wrap64 ((x4.length : Int) - 1)) < (x4.length : Int) then (if (wrap64 ((x4.length : Int) - 1)) ≤ (x4.length : Int) then (if 0 ≤ (rd x4 (wrap64 ((x4.length : Int) - 1))) then (if (rd x4 (wrap64 ((x4.length : Int) - 1))) < (x3.length : Int) then ((some (x3.set ((rd x4 (wrap64 ((x4.length : Int) - 1))) : Int).toNat x5 : List Int)).bind fun y130 => (if y130.length < 17592186044416 then (spec_l01Partners.l0 k x0 (y130 ++ [rd x4 (wrap64 ((x4.length : Int) - 1))]) (x4.take ((wrap64 ((x4.length : Int) - 1)) : Int).toNat) (wrap64 (x5 + 1))) else (none))) else (none)) else (none)) else (none)) else (none)) else (none)) else (if 0 ≤ x5 then (if x5 < (x0.size : Int) then ((spec_l01Return.f (bt x0 x5)).bind fun t134 => (if t134 = true then (if x3.length < 17592186044416 then (spec_l01Partners.l0 k x0 (x3 ++ [(-2)]) x4 (wrap64 (x5 + 1))) else (none)) else (if x3.length < 17592186044416 then (spec_l01Partners.l0 k x0 (x3 ++ [(-1)]) x4 (wrap64 (x5 + 1))) else (none)))) else (none)) else (none))
end
def spec_l01Partners.f (k : Nat) (a0 : ByteArray) : Option (List Int) := spec_l01Partners.l0 k a0 (([] : List Int)) (([] : List Int)) 0
set_option maxHeartbeats 8000000 in
set_option maxRecDepth 100000 in
theorem spec_l01Partners.calls (k : Nat) (a0 : ByteArray) (r : List Int) (w : World) (h : spec_l01Partners.f k a0 = some r) :
  Calls Try.prog 58 #[.string a0] w fun e w' => ∃ v0_ : Value, e = .returned (v0_) ∧ Kd.R (Kd.int .i64) 2 w' w.heap.size (fun _ => True) v0_ r ∧ Below w.heap.size w w' := by
 have HB := AZ.mk (Below.refl w.heap.size w)
 have H : (spec_l01Partners.l0 k a0 (([] : List Int)) (([] : List Int)) 0) = some r := h
 clear h
 obtain ⟨y112, hy112⟩ : ∃ y_ : List Int, y_ = (([] : List Int)) := ⟨_, rfl⟩
 replace H : (spec_l01Partners.l0 k a0 y112 (([] : List Int)) 0) = some r := by first | (rw [hy112]; with_reducible exact H) | (have H2_ := (Option.bind_some _ _).symm.trans H; rw [hy112]; with_reducible exact H2_) | (have H2_ := (Option.bind_some _ _).symm.trans H; with_reducible exact H2_) | with_reducible exact H | (rw [hy112]; exact H) | exact H
 have Ny112 := AZ.mk hy112
 clear hy112
 obtain ⟨y115, hy115⟩ : ∃ y_ : List Int, y_ = (([] : List Int)) := ⟨_, rfl⟩
 replace H : (spec_l01Partners.l0 k a0 y112 y115 0) = some r := by first | (rw [hy115]; with_reducible exact H) | (have H2_ := (Option.bind_some _ _).symm.trans H; rw [hy115]; with_reducible exact H2_) | (have H2_ := (Option.bind_some _ _).symm.trans H; with_reducible exact H2_) | with_reducible exact H | (rw [hy115]; exact H) | exact H
 have Ny115 := AZ.mk hy115
 clear hy115
 have H' := AZ.mk H
 clear H
 go_enter Try.func58, Try.ntmps58
 go_wp2_with (first | ((with_reducible refine gate_dst (N := 7) rfl ?_); (try (refine gate_guard (by rfl) ?_; dsimp only)); refine Kd.R_lit (Kd.int .i64) _ 2 ?hg (N := 7) ?hd (xs := ([] : List Int)) (inner := []) (ok := fun _ => True) (okp := fun _ => True) ?hr ?hp (fun _ hk => hk) trivial (Below.refl _ _) (Nat.le_refl _) (by simp) ?_; (case hd => rfl); (case hg => rfl); (case hr => first | (go_simp; done) | (go_simp; rfl)); (case hp => exact (Reps.none _ _)); intro v113 w2 ho3 hb hg_ hnew_; clear hg_ hnew_; (first | rw [← Ny112.out] at ho3 | (simp only [Int.reduceToNat] at ho3; rw [← Ny112.out] at ho3)); have n0_ := AZ.mk (Kd.R_lower ho3 (pZ (by repeat (first | (with_reducible first | exact HB.out | apply pA | apply pN | apply pD) | exact HB.out)))); have n1_ := AZ.mk (pT (by repeat (first | (with_reducible first | exact HB.out | apply pA | apply pN | apply pD) | exact HB.out)) hb); clear HB; have HO114 := n0_; have HB := n1_; clear n0_ n1_; clear hb ho3) | ((with_reducible refine gate_dst (N := 8) rfl ?_); (try (refine gate_guard (by rfl) ?_; dsimp only)); refine Kd.R_lit (Kd.int .i64) _ 3 ?hg (N := 8) ?hd (xs := ([] : List Int)) (inner := []) (ok := fun _ => True) (okp := fun _ => True) ?hr ?hp (fun _ hk => hk) trivial (Below.refl _ _) (Nat.le_refl _) (by simp) ?_; (case hd => rfl); (case hg => rfl); (case hr => first | (go_simp; done) | (go_simp; rfl)); (case hp => exact (Reps.none _ _)); intro v116 w4 ho5 hb hg_ hnew_; clear hg_ hnew_; (first | rw [← Ny115.out] at ho5 | (simp only [Int.reduceToNat] at ho5; rw [← Ny115.out] at ho5)); have n0_ := AZ.mk (Kd.R_below (by (with_reducible repeat (first | apply Kd.R_alloc | apply Kd.R_drewN | apply Kd.R_drew)); exact HO114.out) hb); have n1_ := AZ.mk (Kd.R_lower ho5 (pZ (by repeat (first | (with_reducible first | exact HB.out | apply pA | apply pN | apply pD) | exact HB.out)))); have n2_ := AZ.mk (pT (by repeat (first | (with_reducible first | exact HB.out | apply pA | apply pN | apply pD) | exact HB.out)) hb); clear HO114; clear HB; have HO114 := n0_; have HO117 := n1_; have HB := n2_; clear n0_ n1_ n2_; clear hb ho5))
 go_loopg [3, 4, 5] k (fun kq v3 v4 v5 w' => ∃ (x3_1 : List Int) (x4_1 : List Int) (x5_1 : Int), v5 = .int .i64 x5_1 ∧ AZ (spec_l01Partners.l0 kq a0 x3_1 x4_1 x5_1 = some r) ∧ AZ (kq ≤ k) ∧ AZ (Kd.R (Kd.int .i64) 2 w' w.heap.size (fun _ => True) v3 x3_1) ∧ AZ (Kd.R (Kd.int .i64) 3 w' w.heap.size (fun _ => True) v4 x4_1) ∧ AZ (Below w.heap.size w w'))
 case atStart => exact ⟨(y112), (y115), (0), (by first | rfl | (simp; done) | (simp [*]; done)), H', ⟨Nat.le_refl _⟩, ⟨by (with_reducible repeat (first | apply Kd.R_alloc | apply Kd.R_drewN | apply Kd.R_drew)); exact HO114.out⟩, ⟨by (with_reducible repeat (first | apply Kd.R_alloc | apply Kd.R_drewN | apply Kd.R_drew)); exact HO117.out⟩, ⟨by repeat (first | (with_reducible first | exact HB.out | apply pA | apply pN | apply pD) | exact HB.out)⟩⟩
 case round =>
  clear H'
  try clear p2
  try clear c5
  obtain ⟨x3_1, x4_1, x5_1, rfl, HA, HK1, HO_3, HO_4, HB⟩ := hrel
  cases gk with
  | zero => exact absurd HA.out (by simp [spec_l01Partners.l0])
  | succ k1 =>
   have H := HA.out
   clear HA
   simp only [spec_l01Partners.l0] at H
   by_cases c6 : x5_1 < (a0.size : Int)
   rotate_left
   ·rw [if_neg c6] at H
    have c6b0 : decide (x5_1 < (a0.size : Int)) = false := decide_eq_false c6
    clear c6
    obtain rfl := Option.some.inj H
    go_wp2
    go_ret
    exact ⟨_, by first | rfl | (simp [errW_none, errW_some] <;> rfl) | (simp [*, errW_none, errW_some] <;> rfl), by (with_reducible repeat (first | apply Kd.R_alloc | apply Kd.R_drewN | apply Kd.R_drew)); exact HO_3.out, by repeat (first | (with_reducible first | exact HB.out | apply pA | apply pN | apply pD) | exact HB.out)⟩
   rw [if_pos c6] at H
   have c6b0 : decide (x5_1 < (a0.size : Int)) = true := decide_eq_true c6
   clear c6
   by_cases c7 : 0 ≤ x5_1
   rotate_left
   ·rw [if_neg c7] at H
    exact absurd H (by simp)
   rw [if_pos c7] at H
   have c7b0 : decide (0 ≤ x5_1) = true := decide_eq_true c7
   clear c7
   replace H := Option.bind_eq_some_iff.mp H
   obtain ⟨t118, A90, H⟩ := H
   replace H : (if t118 = true then (if x3_1.length < 17592186044416 then (if x4_1.length < 17592186044416 then (spec_l01Partners.l0 k1 a0 (x3_1 ++ [(-2)]) (x4_1 ++ [x5_1]) (wrap64 (x5_1 + 1))) else (none)) else (none)) else ((spec_l01Return.f (bt a0 x5_1)).bind fun t125 => (if t125 = true then (spec_l01Partners.j1 k1 a0 x3_1 x4_1 x5_1 (decide ((x4_1.length : Int) > 0))) else (spec_l01Partners.j1 k1 a0 x3_1 x4_1 x5_1 false)))) = some r := H
   have A9 := AZ.mk A90
   clear A90
   by_cases c10 : t118 = true
   ·subst c10
    have H1 : (if x3_1.length < 17592186044416 then (if x4_1.length < 17592186044416 then (spec_l01Partners.l0 k1 a0 (x3_1 ++ [(-2)]) (x4_1 ++ [x5_1]) (wrap64 (x5_1 + 1))) else (none)) else (none)) = some r := by rw [if_pos rfl] at H; exact H
    clear H
    have H := H1
    clear H1
    by_cases c11 : x3_1.length < 17592186044416
    rotate_left
    ·rw [if_neg c11] at H
     exact absurd H (by simp)
    rw [if_pos c11] at H
    have LMc11 := AZ.mk c11
    clear c11
    obtain ⟨y119, hy119⟩ : ∃ y_ : List Int, y_ = (x3_1 ++ [(-2)]) := ⟨_, rfl⟩
    replace H : (if x4_1.length < 17592186044416 then (spec_l01Partners.l0 k1 a0 y119 (x4_1 ++ [x5_1]) (wrap64 (x5_1 + 1))) else (none)) = some r := by first | (rw [hy119]; with_reducible exact H) | (have H2_ := (Option.bind_some _ _).symm.trans H; rw [hy119]; with_reducible exact H2_) | (have H2_ := (Option.bind_some _ _).symm.trans H; with_reducible exact H2_) | with_reducible exact H | (rw [hy119]; exact H) | exact H
    have Ny119 := AZ.mk hy119
    clear hy119
    by_cases c12 : x4_1.length < 17592186044416
    rotate_left
    ·rw [if_neg c12] at H
     exact absurd H (by simp)
    rw [if_pos c12] at H
    have LMc12 := AZ.mk c12
    clear c12
    obtain ⟨y122, hy122⟩ : ∃ y_ : List Int, y_ = (x4_1 ++ [x5_1]) := ⟨_, rfl⟩
    replace H : (spec_l01Partners.l0 k1 a0 y119 y122 (wrap64 (x5_1 + 1))) = some r := by first | (rw [hy122]; with_reducible exact H) | (have H2_ := (Option.bind_some _ _).symm.trans H; rw [hy122]; with_reducible exact H2_) | (have H2_ := (Option.bind_some _ _).symm.trans H; with_reducible exact H2_) | with_reducible exact H | (rw [hy122]; exact H) | exact H
    have Ny122 := AZ.mk hy122
    clear hy122
    have H' := AZ.mk H
    clear H
    have p8 : 0 ≤ (x5_1 : Int) := oT (by first | (with_reducible assumption) | assumption)
    have q8 : x5_1 < (a0.size : Int) := oT (by first | (with_reducible assumption) | assumption)
    have hx8 := bt_at a0 x5_1
    replace p8 := eq_true p8
    replace q8 := eq_true q8
    go_wp2_with (first | ((with_reducible refine gate_callee (f := 59) rfl ?_); refine goesL_ (some 22) rfl rfl Try.func59 (by kernel_rfl) rfl #[.int .u8 (bt a0 x5_1)] rfl (by (try simp only [List.map_toArray, List.map_cons, List.map_nil]); first | done | rfl | (simp only [List.length_drop, List.length_take]; rfl)) ?_; (with_reducible refine (spec_l01Call.calls (bt a0 x5_1) true _ A9.out).mono ?_); rintro e w' ⟨rfl, ⟨nd, rfl⟩⟩; refine ⟨_, rfl, ?_⟩) | ((with_reducible refine gate_builtin (b := .append) (xs := #[.tmp 23, .tmp 24]) rfl ?_); (try (refine gate_guard (by rfl) ?_; dsimp only)); at_builtin; refine Kd.R_append (Kd.int .i64) (w0 := w) w.heap.size rfl (.tmp 23) (.tmp 24) 34 2 (.int .i64 0) 8 rfl Try.underlying34 info2 rfl (by decide) (by omega) u3 x3_1 (-2) [.int .i64 (-2)] (fun _ => True) (fun _ => False) rfl rfl ?aP (fun _ hk => hk.elim) ?aF ?aO ?aB ?aS ?aL ?_; (case aP => exact rfl); (case aB => exact (by repeat (first | (with_reducible first | exact HB.out | apply pA | apply pN | apply pD) | exact HB.out))); (case aF => exact (fun _ _ => trivial)); (case aO => exact (by (with_reducible repeat (first | apply Kd.R_alloc | apply Kd.R_drewN | apply Kd.R_drew)); exact HO_3.out)); (case aS => exact (pZ (by repeat (first | (with_reducible first | exact HB.out | apply pA | apply pN | apply pD) | exact HB.out)))); (case aL => have := LMc11.out; omega); intro v120 w13 ho hb hg hat; rw [← Ny119.out] at ho; have n0_ := AZ.mk (Kd.R_over' (by (with_reducible repeat (first | apply Kd.R_alloc | apply Kd.R_drewN | apply Kd.R_drew)); exact HO_4.out) (Kd.R_typed (by (with_reducible repeat (first | apply Kd.R_alloc | apply Kd.R_drewN | apply Kd.R_drew)); exact HO_3.out)) (by decide) hg); have n1_ := AZ.mk (hb); have n2_ := AZ.mk (ho); clear HO_4; clear HB; clear HO_3; have HO_4 := n0_; have HB := n1_; have HO121 := n2_; clear n0_ n1_ n2_; clear ho hb hg hat) | ((with_reducible refine gate_builtin (b := .append) (xs := #[.tmp 26, .tmp 28]) rfl ?_); (try (refine gate_guard (by rfl) ?_; dsimp only)); at_builtin; refine Kd.R_append (Kd.int .i64) (w0 := w) w.heap.size rfl (.tmp 26) (.tmp 28) 85 3 (.int .i64 0) 8 rfl Try.underlying85 info3 rfl (by decide) (by omega) u4 x4_1 x5_1 [.int .i64 x5_1] (fun _ => True) (fun _ => False) rfl rfl ?aP (fun _ hk => hk.elim) ?aF ?aO ?aB ?aS ?aL ?_; (case aP => exact rfl); (case aB => exact (by repeat (first | (with_reducible first | exact HB.out | apply pA | apply pN | apply pD) | exact HB.out))); (case aF => exact (fun _ _ => trivial)); (case aO => exact (by (with_reducible repeat (first | apply Kd.R_alloc | apply Kd.R_drewN | apply Kd.R_drew)); exact HO_4.out)); (case aS => exact (pZ (by repeat (first | (with_reducible first | exact HB.out | apply pA | apply pN | apply pD) | exact HB.out)))); (case aL => have := LMc12.out; omega); intro v123 w14 ho hb hg hat; rw [← Ny122.out] at ho; have n0_ := AZ.mk (Kd.R_over' (by (with_reducible repeat (first | apply Kd.R_alloc | apply Kd.R_drewN | apply Kd.R_drew)); exact HO121.out) (Kd.R_typed (by (with_reducible repeat (first | apply Kd.R_alloc | apply Kd.R_drewN | apply Kd.R_drew)); exact HO_4.out)) (by decide) hg); have n1_ := AZ.mk (hb); have n2_ := AZ.mk (ho); clear HO121; clear HB; clear HO_4; have HO121 := n0_; have HB := n1_; have HO124 := n2_; clear n0_ n1_ n2_; clear ho hb hg hat))
    go_roundg k1
    case measure => have := HK1.out; omega
    case rel => exact ⟨(y119), (y122), (wrap64 (x5_1 + 1)), (by first | rfl | (simp; done) | (simp [*]; done)), H', ⟨by have := HK1.out; omega⟩, ⟨by (with_reducible repeat (first | apply Kd.R_alloc | apply Kd.R_drewN | apply Kd.R_drew)); exact HO121.out⟩, ⟨by (with_reducible repeat (first | apply Kd.R_alloc | apply Kd.R_drewN | apply Kd.R_drew)); exact HO124.out⟩, ⟨by repeat (first | (with_reducible first | exact HB.out | apply pA | apply pN | apply pD) | exact HB.out)⟩⟩
   replace c10 := Bool.eq_false_iff.mpr c10
   subst c10
   have H1 : ((spec_l01Return.f (bt a0 x5_1)).bind fun t125 => (if t125 = true then (spec_l01Partners.j1 k1 a0 x3_1 x4_1 x5_1 (decide ((x4_1.length : Int) > 0))) else (spec_l01Partners.j1 k1 a0 x3_1 x4_1 x5_1 false))) = some r := by rw [if_neg (show ¬ (false = true) by decide)] at H; exact H
   clear H
   have H := H1
   clear H1
   have HC15 := AZ.mk H
   clear H
   have p8 : 0 ≤ (x5_1 : Int) := oT (by first | (with_reducible assumption) | assumption)
   have q8 : x5_1 < (a0.size : Int) := oT (by first | (with_reducible assumption) | assumption)
   have hx8 := bt_at a0 x5_1
   replace p8 := eq_true p8
   replace q8 := eq_true q8
   go_upto_region 10 with (first | ((with_reducible refine gate_callee (f := 59) rfl ?_); refine goesL_ (some 22) rfl rfl Try.func59 (by kernel_rfl) rfl #[.int .u8 (bt a0 x5_1)] rfl (by (try simp only [List.map_toArray, List.map_cons, List.map_nil]); first | done | rfl | (simp only [List.length_drop, List.length_take]; rfl)) ?_; (with_reducible refine (spec_l01Call.calls (bt a0 x5_1) false _ A9.out).mono ?_); rintro e w' ⟨rfl, ⟨nd, rfl⟩⟩; refine ⟨_, rfl, ?_⟩))
   (try simp only [Act.put, sA, sB, sC])
   go_cut [30] (fun v30 wc => ∃ (kq : Nat) (x30_14 : Bool), v30 = .bool x30_14 ∧ AZ (spec_l01Partners.j1 kq a0 x3_1 x4_1 x5_1 x30_14 = some r) ∧ AZ (kq ≤ k1) ∧ AZ (Kd.R (Kd.int .i64) 2 wc w.heap.size (fun _ => True) u3 x3_1) ∧ AZ (Kd.R (Kd.int .i64) 3 wc w.heap.size (fun _ => True) u4 x4_1) ∧ AZ (Below w.heap.size w wc))
   case first =>
    have H := HC15.out
    clear HC15
    replace H := Option.bind_eq_some_iff.mp H
    obtain ⟨t125, A170, H⟩ := H
    replace H : (if t125 = true then (spec_l01Partners.j1 k1 a0 x3_1 x4_1 x5_1 (decide ((x4_1.length : Int) > 0))) else (spec_l01Partners.j1 k1 a0 x3_1 x4_1 x5_1 false)) = some r := H
    have A17 := AZ.mk A170
    clear A170
    by_cases c18 : t125 = true
    rotate_left
    ·replace c18 := Bool.eq_false_iff.mpr c18
     subst c18
     have H1 : (spec_l01Partners.j1 k1 a0 x3_1 x4_1 x5_1 false) = some r := by rw [if_neg (show ¬ (false = true) by decide)] at H; exact H
     clear H
     have H := H1
     clear H1
     have H' := AZ.mk H
     clear H
     have p16 : 0 ≤ (x5_1 : Int) := oT (by first | (with_reducible assumption) | assumption)
     have q16 : x5_1 < (a0.size : Int) := oT (by first | (with_reducible assumption) | assumption)
     have hx16 := bt_at a0 x5_1
     replace p16 := eq_true p16
     replace q16 := eq_true q16
     go_wp2_with (first | ((with_reducible refine gate_callee (f := 60) rfl ?_); refine goesL_ (some 34) rfl rfl Try.func60 (by kernel_rfl) rfl #[.int .u8 (bt a0 x5_1)] rfl (by (try simp only [List.map_toArray, List.map_cons, List.map_nil]); first | done | rfl | (simp only [List.length_drop, List.length_take]; rfl)) ?_; (with_reducible refine (spec_l01Return.calls (bt a0 x5_1) false _ A17.out).mono ?_); rintro e w' ⟨rfl, ⟨nd, rfl⟩⟩; refine ⟨_, rfl, ?_⟩))
     go_meet
     case rel => exact ⟨_, (false), (by first | rfl | (simp; done) | (simp [*]; done)), H', ⟨by have := HK1.out; first | omega | exact Nat.le_refl _⟩, ⟨by (with_reducible repeat (first | apply Kd.R_alloc | apply Kd.R_drewN | apply Kd.R_drew)); exact HO_3.out⟩, ⟨by (with_reducible repeat (first | apply Kd.R_alloc | apply Kd.R_drewN | apply Kd.R_drew)); exact HO_4.out⟩, ⟨by repeat (first | (with_reducible first | exact HB.out | apply pA | apply pN | apply pD) | exact HB.out)⟩⟩
    subst c18
    have H1 : (spec_l01Partners.j1 k1 a0 x3_1 x4_1 x5_1 (decide ((x4_1.length : Int) > 0))) = some r := by rw [if_pos rfl] at H; exact H
    clear H
    have H := H1
    clear H1
    have H' := AZ.mk H
    clear H
    have p16 : 0 ≤ (x5_1 : Int) := oT (by first | (with_reducible assumption) | assumption)
    have q16 : x5_1 < (a0.size : Int) := oT (by first | (with_reducible assumption) | assumption)
    have hx16 := bt_at a0 x5_1
    replace p16 := eq_true p16
    replace q16 := eq_true q16
    go_wp2_with (first | ((with_reducible refine gate_callee (f := 60) rfl ?_); refine goesL_ (some 34) rfl rfl Try.func60 (by kernel_rfl) rfl #[.int .u8 (bt a0 x5_1)] rfl (by (try simp only [List.map_toArray, List.map_cons, List.map_nil]); first | done | rfl | (simp only [List.length_drop, List.length_take]; rfl)) ?_; (with_reducible refine (spec_l01Return.calls (bt a0 x5_1) true _ A17.out).mono ?_); rintro e w' ⟨rfl, ⟨nd, rfl⟩⟩; refine ⟨_, rfl, ?_⟩; obtain ⟨Ao19, co19, eo19⟩ := Kd.R_slice HO_4.out; subst eo19))
    go_meet
    case rel => exact ⟨_, (decide ((x4_1.length : Int) > 0)), (by first | rfl | (simp; done) | (simp [*]; done)), H', ⟨by have := HK1.out; first | omega | exact Nat.le_refl _⟩, ⟨by (with_reducible repeat (first | apply Kd.R_alloc | apply Kd.R_drewN | apply Kd.R_drew)); exact HO_3.out⟩, ⟨by (with_reducible repeat (first | apply Kd.R_alloc | apply Kd.R_drewN | apply Kd.R_drew)); exact HO_4.out⟩, ⟨by repeat (first | (with_reducible first | exact HB.out | apply pA | apply pN | apply pD) | exact HB.out)⟩⟩
   case rest =>
    clear HC15
    try clear c1
    try clear p1
    try clear q1
    try clear hx1
    try clear p2
    try clear c5
    try clear c6
    try clear c6b0
    try clear p6
    try clear c7
    try clear c7b0
    try clear p8
    try clear q8
    try clear hx8
    try clear c10
    try clear c11
    try clear c12
    try clear p16
    try clear q16
    try clear hx16
    try clear c18
    try clear p16
    try clear p2
    try clear p8
    try clear q16
    try clear q8
    obtain ⟨kq, x30_14, rfl, HA, HJ14, HO_3, HO_4, HB⟩ := hcut
    cases kq with
    | zero => exact absurd HA.out (by simp [spec_l01Partners.j1])
    | succ kj14 =>
     have H := HA.out
     clear HA
     simp only [spec_l01Partners.j1] at H
     by_cases c20 : x30_14 = true
     rotate_left
     ·replace c20 := Bool.eq_false_iff.mpr c20
      subst c20
      have H1 : (if 0 ≤ x5_1 then (if x5_1 < (a0.size : Int) then ((spec_l01Return.f (bt a0 x5_1)).bind fun t134 => (if t134 = true then (if x3_1.length < 17592186044416 then (spec_l01Partners.l0 kj14 a0 (x3_1 ++ [(-2)]) x4_1 (wrap64 (x5_1 + 1))) else (none)) else (if x3_1.length < 17592186044416 then (spec_l01Partners.l0 kj14 a0 (x3_1 ++ [(-1)]) x4_1 (wrap64 (x5_1 + 1))) else (none)))) else (none)) else (none)) = some r := by rw [if_neg (show ¬ (false = true) by decide)] at H; exact H
      clear H
      have H := H1
      clear H1
      by_cases c34 : 0 ≤ x5_1
      rotate_left
      ·rw [if_neg c34] at H
       exact absurd H (by simp)
      rw [if_pos c34] at H
      have c34b0 : decide (0 ≤ x5_1) = true := decide_eq_true c34
      clear c34
      by_cases c35 : x5_1 < (a0.size : Int)
      rotate_left
      ·rw [if_neg c35] at H
       exact absurd H (by simp)
      rw [if_pos c35] at H
      have c35b0 : decide (x5_1 < (a0.size : Int)) = true := decide_eq_true c35
      clear c35
      replace H := Option.bind_eq_some_iff.mp H
      obtain ⟨t134, A370, H⟩ := H
      replace H : (if t134 = true then (if x3_1.length < 17592186044416 then (spec_l01Partners.l0 kj14 a0 (x3_1 ++ [(-2)]) x4_1 (wrap64 (x5_1 + 1))) else (none)) else (if x3_1.length < 17592186044416 then (spec_l01Partners.l0 kj14 a0 (x3_1 ++ [(-1)]) x4_1 (wrap64 (x5_1 + 1))) else (none))) = some r := H
      have A37 := AZ.mk A370
      clear A370
      by_cases c38 : t134 = true
      ·subst c38
       have H1 : (if x3_1.length < 17592186044416 then (spec_l01Partners.l0 kj14 a0 (x3_1 ++ [(-2)]) x4_1 (wrap64 (x5_1 + 1))) else (none)) = some r := by rw [if_pos rfl] at H; exact H
       clear H
       have H := H1
       clear H1
       by_cases c39 : x3_1.length < 17592186044416
       rotate_left
       ·rw [if_neg c39] at H
        exact absurd H (by simp)
       rw [if_pos c39] at H
       have LMc39 := AZ.mk c39
       clear c39
       obtain ⟨y135, hy135⟩ : ∃ y_ : List Int, y_ = (x3_1 ++ [(-2)]) := ⟨_, rfl⟩
       replace H : (spec_l01Partners.l0 kj14 a0 y135 x4_1 (wrap64 (x5_1 + 1))) = some r := by first | (rw [hy135]; with_reducible exact H) | (have H2_ := (Option.bind_some _ _).symm.trans H; rw [hy135]; with_reducible exact H2_) | (have H2_ := (Option.bind_some _ _).symm.trans H; with_reducible exact H2_) | with_reducible exact H | (rw [hy135]; exact H) | exact H
       have Ny135 := AZ.mk hy135
       clear hy135
       have H' := AZ.mk H
       clear H
       have p36 : 0 ≤ (x5_1 : Int) := oT (by first | (with_reducible assumption) | assumption)
       have q36 : x5_1 < (a0.size : Int) := oT (by first | (with_reducible assumption) | assumption)
       have hx36 := bt_at a0 x5_1
       replace p36 := eq_true p36
       replace q36 := eq_true q36
       go_wp2_with (first | ((with_reducible refine gate_callee (f := 60) rfl ?_); refine goesL_ (some 63) rfl rfl Try.func60 (by kernel_rfl) rfl #[.int .u8 (bt a0 x5_1)] rfl (by (try simp only [List.map_toArray, List.map_cons, List.map_nil]); first | done | rfl | (simp only [List.length_drop, List.length_take]; rfl)) ?_; (with_reducible refine (spec_l01Return.calls (bt a0 x5_1) true _ A37.out).mono ?_); rintro e w' ⟨rfl, ⟨nd, rfl⟩⟩; refine ⟨_, rfl, ?_⟩) | ((with_reducible refine gate_builtin (b := .append) (xs := #[.tmp 64, .tmp 65]) rfl ?_); (try (refine gate_guard (by rfl) ?_; dsimp only)); at_builtin; refine Kd.R_append (Kd.int .i64) (w0 := w) w.heap.size rfl (.tmp 64) (.tmp 65) 34 2 (.int .i64 0) 8 rfl Try.underlying34 info2 rfl (by decide) (by omega) u3 x3_1 (-2) [.int .i64 (-2)] (fun _ => True) (fun _ => False) rfl rfl ?aP (fun _ hk => hk.elim) ?aF ?aO ?aB ?aS ?aL ?_; (case aP => exact rfl); (case aB => exact (by repeat (first | (with_reducible first | exact HB.out | apply pA | apply pN | apply pD) | exact HB.out))); (case aF => exact (fun _ _ => trivial)); (case aO => exact (by (with_reducible repeat (first | apply Kd.R_alloc | apply Kd.R_drewN | apply Kd.R_drew)); exact HO_3.out)); (case aS => exact (pZ (by repeat (first | (with_reducible first | exact HB.out | apply pA | apply pN | apply pD) | exact HB.out)))); (case aL => have := LMc39.out; omega); intro v136 w40 ho hb hg hat; rw [← Ny135.out] at ho; have n0_ := AZ.mk (Kd.R_over' (by (with_reducible repeat (first | apply Kd.R_alloc | apply Kd.R_drewN | apply Kd.R_drew)); exact HO_4.out) (Kd.R_typed (by (with_reducible repeat (first | apply Kd.R_alloc | apply Kd.R_drewN | apply Kd.R_drew)); exact HO_3.out)) (by decide) hg); have n1_ := AZ.mk (hb); have n2_ := AZ.mk (ho); clear HO_4; clear HB; clear HO_3; have HO_4 := n0_; have HB := n1_; have HO137 := n2_; clear n0_ n1_ n2_; clear ho hb hg hat))
       go_roundg kj14
       case measure => have := HK1.out; have := HJ14.out; omega
       case rel => exact ⟨(y135), (x4_1), (wrap64 (x5_1 + 1)), (by first | rfl | (simp; done) | (simp [*]; done)), H', ⟨by have := HK1.out; have := HJ14.out; omega⟩, ⟨by (with_reducible repeat (first | apply Kd.R_alloc | apply Kd.R_drewN | apply Kd.R_drew)); exact HO137.out⟩, ⟨by (with_reducible repeat (first | apply Kd.R_alloc | apply Kd.R_drewN | apply Kd.R_drew)); exact HO_4.out⟩, ⟨by repeat (first | (with_reducible first | exact HB.out | apply pA | apply pN | apply pD) | exact HB.out)⟩⟩
      replace c38 := Bool.eq_false_iff.mpr c38
      subst c38
      have H1 : (if x3_1.length < 17592186044416 then (spec_l01Partners.l0 kj14 a0 (x3_1 ++ [(-1)]) x4_1 (wrap64 (x5_1 + 1))) else (none)) = some r := by rw [if_neg (show ¬ (false = true) by decide)] at H; exact H
      clear H
      have H := H1
      clear H1
      by_cases c41 : x3_1.length < 17592186044416
      rotate_left
      ·rw [if_neg c41] at H
       exact absurd H (by simp)
      rw [if_pos c41] at H
      have LMc41 := AZ.mk c41
      clear c41
      obtain ⟨y138, hy138⟩ : ∃ y_ : List Int, y_ = (x3_1 ++ [(-1)]) := ⟨_, rfl⟩
      replace H : (spec_l01Partners.l0 kj14 a0 y138 x4_1 (wrap64 (x5_1 + 1))) = some r := by first | (rw [hy138]; with_reducible exact H) | (have H2_ := (Option.bind_some _ _).symm.trans H; rw [hy138]; with_reducible exact H2_) | (have H2_ := (Option.bind_some _ _).symm.trans H; with_reducible exact H2_) | with_reducible exact H | (rw [hy138]; exact H) | exact H
      have Ny138 := AZ.mk hy138
      clear hy138
      have H' := AZ.mk H
      clear H
      have p36 : 0 ≤ (x5_1 : Int) := oT (by first | (with_reducible assumption) | assumption)
      have q36 : x5_1 < (a0.size : Int) := oT (by first | (with_reducible assumption) | assumption)
      have hx36 := bt_at a0 x5_1
      replace p36 := eq_true p36
      replace q36 := eq_true q36
      go_wp2_with (first | ((with_reducible refine gate_callee (f := 60) rfl ?_); refine goesL_ (some 63) rfl rfl Try.func60 (by kernel_rfl) rfl #[.int .u8 (bt a0 x5_1)] rfl (by (try simp only [List.map_toArray, List.map_cons, List.map_nil]); first | done | rfl | (simp only [List.length_drop, List.length_take]; rfl)) ?_; (with_reducible refine (spec_l01Return.calls (bt a0 x5_1) false _ A37.out).mono ?_); rintro e w' ⟨rfl, ⟨nd, rfl⟩⟩; refine ⟨_, rfl, ?_⟩) | ((with_reducible refine gate_builtin (b := .append) (xs := #[.tmp 15, .tmp 16]) rfl ?_); (try (refine gate_guard (by rfl) ?_; dsimp only)); at_builtin; refine Kd.R_append (Kd.int .i64) (w0 := w) w.heap.size rfl (.tmp 15) (.tmp 16) 34 2 (.int .i64 0) 8 rfl Try.underlying34 info2 rfl (by decide) (by omega) u3 x3_1 (-1) [.int .i64 (-1)] (fun _ => True) (fun _ => False) rfl rfl ?aP (fun _ hk => hk.elim) ?aF ?aO ?aB ?aS ?aL ?_; (case aP => exact rfl); (case aB => exact (by repeat (first | (with_reducible first | exact HB.out | apply pA | apply pN | apply pD) | exact HB.out))); (case aF => exact (fun _ _ => trivial)); (case aO => exact (by (with_reducible repeat (first | apply Kd.R_alloc | apply Kd.R_drewN | apply Kd.R_drew)); exact HO_3.out)); (case aS => exact (pZ (by repeat (first | (with_reducible first | exact HB.out | apply pA | apply pN | apply pD) | exact HB.out)))); (case aL => have := LMc41.out; omega); intro v139 w42 ho hb hg hat; rw [← Ny138.out] at ho; have n0_ := AZ.mk (Kd.R_over' (by (with_reducible repeat (first | apply Kd.R_alloc | apply Kd.R_drewN | apply Kd.R_drew)); exact HO_4.out) (Kd.R_typed (by (with_reducible repeat (first | apply Kd.R_alloc | apply Kd.R_drewN | apply Kd.R_drew)); exact HO_3.out)) (by decide) hg); have n1_ := AZ.mk (hb); have n2_ := AZ.mk (ho); clear HO_4; clear HB; clear HO_3; have HO_4 := n0_; have HB := n1_; have HO140 := n2_; clear n0_ n1_ n2_; clear ho hb hg hat))
      go_roundg kj14
      case measure => have := HK1.out; have := HJ14.out; omega
      case rel => exact ⟨(y138), (x4_1), (wrap64 (x5_1 + 1)), (by first | rfl | (simp; done) | (simp [*]; done)), H', ⟨by have := HK1.out; have := HJ14.out; omega⟩, ⟨by (with_reducible repeat (first | apply Kd.R_alloc | apply Kd.R_drewN | apply Kd.R_drew)); exact HO140.out⟩, ⟨by (with_reducible repeat (first | apply Kd.R_alloc | apply Kd.R_drewN | apply Kd.R_drew)); exact HO_4.out⟩, ⟨by repeat (first | (with_reducible first | exact HB.out | apply pA | apply pN | apply pD) | exact HB.out)⟩⟩
     subst c20
     have H1 : (if 0 ≤ (wrap64 ((x4_1.length : Int) - 1)) then (if (wrap64 ((x4_1.length : Int) - 1)) < (x4_1.length : Int) then (if (wrap64 ((x4_1.length : Int) - 1)) ≤ (x4_1.length : Int) then (if 0 ≤ (rd x4_1 (wrap64 ((x4_1.length : Int) - 1))) then (if (rd x4_1 (wrap64 ((x4_1.length : Int) - 1))) < (x3_1.length : Int) then ((some (x3_1.set ((rd x4_1 (wrap64 ((x4_1.length : Int) - 1))) : Int).toNat x5_1 : List Int)).bind fun y130 => (if y130.length < 17592186044416 then (spec_l01Partners.l0 kj14 a0 (y130 ++ [rd x4_1 (wrap64 ((x4_1.length : Int) - 1))]) (x4_1.take ((wrap64 ((x4_1.length : Int) - 1)) : Int).toNat) (wrap64 (x5_1 + 1))) else (none))) else (none)) else (none)) else (none)) else (none)) else (none)) = some r := by rw [if_pos rfl] at H; exact H
     clear H
     have H := H1
     clear H1
     obtain ⟨ji21, hji21⟩ : ∃ j_ : Int, (wrap64 ((x4_1.length : Int) - 1)) = j_ := ⟨_, rfl⟩
     replace H : (if 0 ≤ (ji21) then (if (ji21) < (x4_1.length : Int) then (if (ji21) ≤ (x4_1.length : Int) then (if 0 ≤ (rd x4_1 (ji21)) then (if (rd x4_1 (ji21)) < (x3_1.length : Int) then ((some (x3_1.set ((rd x4_1 (ji21)) : Int).toNat x5_1 : List Int)).bind fun y130 => (if y130.length < 17592186044416 then (spec_l01Partners.l0 kj14 a0 (y130 ++ [rd x4_1 (ji21)]) (x4_1.take ((ji21) : Int).toNat) (wrap64 (x5_1 + 1))) else (none))) else (none)) else (none)) else (none)) else (none)) else (none)) = some r := by first | (rw [hji21] at H; exact H) | (simp only [hji21] at H ⊢; exact H)
     have hji21w : (IntKind.i64.wrap ((x4_1.length : Int) - 1)) = ji21 := (i64_w _).trans hji21
     by_cases c22 : 0 ≤ (ji21)
     rotate_left
     ·rw [if_neg c22] at H
      exact absurd H (by simp)
     rw [if_pos c22] at H
     have c22b0 : decide (0 ≤ (ji21)) = true := decide_eq_true c22
     clear c22
     by_cases c23 : (ji21) < (x4_1.length : Int)
     rotate_left
     ·rw [if_neg c23] at H
      exact absurd H (by simp)
     rw [if_pos c23] at H
     have c23b0 : decide ((ji21) < (x4_1.length : Int)) = true := decide_eq_true c23
     clear c23
     by_cases c24 : (ji21) ≤ (x4_1.length : Int)
     rotate_left
     ·rw [if_neg c24] at H
      exact absurd H (by simp)
     rw [if_pos c24] at H
     have c24b0 := eq_true c24
     have c24b1 : decide ((ji21) ≤ (x4_1.length : Int)) = true := decide_eq_true c24
     clear c24
     obtain ⟨y127, hy127⟩ : ∃ y_ : List Int, y_ = (x4_1.take ((ji21) : Int).toNat) := ⟨_, rfl⟩
     replace H : (if 0 ≤ (rd x4_1 (ji21)) then (if (rd x4_1 (ji21)) < (x3_1.length : Int) then ((some (x3_1.set ((rd x4_1 (ji21)) : Int).toNat x5_1 : List Int)).bind fun y130 => (if y130.length < 17592186044416 then (spec_l01Partners.l0 kj14 a0 (y130 ++ [rd x4_1 (ji21)]) y127 (wrap64 (x5_1 + 1))) else (none))) else (none)) else (none)) = some r := by first | (rw [hy127]; with_reducible exact H) | (have H2_ := (Option.bind_some _ _).symm.trans H; rw [hy127]; with_reducible exact H2_) | (have H2_ := (Option.bind_some _ _).symm.trans H; with_reducible exact H2_) | with_reducible exact H | (rw [hy127]; exact H) | exact H
     have Ny127 := AZ.mk hy127
     clear hy127
     by_cases c25 : 0 ≤ (rd x4_1 (ji21))
     rotate_left
     ·rw [if_neg c25] at H
      exact absurd H (by simp)
     rw [if_pos c25] at H
     have c25b0 : decide (0 ≤ (rd x4_1 (ji21))) = true := decide_eq_true c25
     clear c25
     by_cases c26 : (rd x4_1 (ji21)) < (x3_1.length : Int)
     rotate_left
     ·rw [if_neg c26] at H
      exact absurd H (by simp)
     rw [if_pos c26] at H
     have c26b0 : decide ((rd x4_1 (ji21)) < (x3_1.length : Int)) = true := decide_eq_true c26
     clear c26
     obtain ⟨y130, hy130⟩ : ∃ y_ : List Int, y_ = (x3_1.set ((rd x4_1 (ji21)) : Int).toNat x5_1) := ⟨_, rfl⟩
     replace H : (if y130.length < 17592186044416 then (spec_l01Partners.l0 kj14 a0 (y130 ++ [rd x4_1 (ji21)]) y127 (wrap64 (x5_1 + 1))) else (none)) = some r := by first | (rw [hy130]; with_reducible exact H) | (have H2_ := (Option.bind_some _ _).symm.trans H; rw [hy130]; with_reducible exact H2_) | (have H2_ := (Option.bind_some _ _).symm.trans H; with_reducible exact H2_) | with_reducible exact H | (rw [hy130]; exact H) | exact H
     have Ny130 := AZ.mk hy130
     clear hy130
     by_cases c28 : y130.length < 17592186044416
     rotate_left
     ·rw [if_neg c28] at H
      exact absurd H (by simp)
     rw [if_pos c28] at H
     have LMc28 := AZ.mk c28
     clear c28
     obtain ⟨y131, hy131⟩ : ∃ y_ : List Int, y_ = (y130 ++ [rd x4_1 (ji21)]) := ⟨_, rfl⟩
     replace H : (spec_l01Partners.l0 kj14 a0 y131 y127 (wrap64 (x5_1 + 1))) = some r := by first | (rw [hy131]; with_reducible exact H) | (have H2_ := (Option.bind_some _ _).symm.trans H; rw [hy131]; with_reducible exact H2_) | (have H2_ := (Option.bind_some _ _).symm.trans H; with_reducible exact H2_) | with_reducible exact H | (rw [hy131]; exact H) | exact H
     have Ny131 := AZ.mk hy131
     clear hy131
     have H' := AZ.mk H
     clear H
     obtain ⟨Ao29, co29, eo29⟩ := Kd.R_slice HO_4.out
     subst eo29
     have p126 : 0 ≤ ((ji21) : Int) := oT (by first | (with_reducible assumption) | assumption)
     have q126 : (ji21) < (x4_1.length : Int) := oT (by first | (with_reducible assumption) | assumption)
     obtain ⟨ad126, e126, hx126_0⟩ := Kd.at_int (Kd.R_reads' HO_4.out).2.2 (ji21) p126 q126
     cases e126
     replace p126 := eq_true p126
     replace q126 := eq_true q126
     have q30 : ((ji21) : Int) ≤ ((x4_1.length : Int) : Int) := oT (by first | (with_reducible assumption) | assumption)
     obtain ⟨i030, hi030, _, hsz30, _⟩ := info_parts info3
     have hcut30 := cut_to (P := Try.prog) 85 3 .i64 Try.underlying85 hi030 (some ad126) x4_1.length co29 (ji21) (oT (by first | (with_reducible assumption) | assumption)) q30 (Kd.R_reads' HO_4.out).2.1
     have hr30 := Kd.R_take (m := ((ji21) : Int).toNat) HO_4.out (by omega)
     have hy30 : y127.length = ((ji21) : Int).toNat := (by rw [Ny127.out, List.length_take]; omega)
     rw [← Ny127.out] at hr30
     rw [← hy30] at hr30 hcut30
     clear hy30 hi030 hsz30 HO_4
     have HO129 := AZ.mk hr30
     clear hr30
     replace q30 := eq_true q30
     have p27 : 0 ≤ ((rd x4_1 (ji21)) : Int) := oT (by first | (with_reducible assumption) | assumption)
     have q27 : ((rd x4_1 (ji21)) : Int) < ((x3_1.length : Int) : Int) := oT (by first | (with_reducible assumption) | assumption)
     obtain ⟨go27, co27, eo27, gb27, gl27, cl27, HG27⟩ := Kd.R_form HO_3.out (by omega)
     (first | cases eo27 | (injection eo27 with ea_ en_ ec_; (first | subst ea_ | (injection ea_ with ea_; subst ea_)); subst ec_; clear en_))
     have GB27 := AZ.mk gb27
     have GG27 := AZ.mk HG27
     clear gb27 gl27 HG27
     obtain ⟨hx27_0, hf27_0⟩ := Kd.R_celln 0 HO_3.out ((rd x4_1 (ji21)) : Int) p27 q27
     replace p27 := eq_true p27
     replace q27 := eq_true q27
     have HP31 := Kd.R_putg HO_3.out ((rd x4_1 (ji21)) : Int) x5_1
     go_wp2_with (first | ((with_reducible refine gate_store (t := 2) (p := 54) rfl ?_); refine store_event (t := 2) (p := 54) (v := ?vo_w32) (w1 := (wc.setCell ⟨go27, ((rd x4_1 (ji21)) : Int).toNat, none⟩ (.int .i64 x5_1))) ?hg ?ho ?hn ?hr ?_; (case ho => rfl); (case hg => rfl); (case hn => rfl); (case hr => first | (go_simp; done) | (go_simp; rfl)); intro w32 hw; have hg : wc.grownBy w32 (some go27) := (by rw [hw]; exact HP31.2); have hp_ : Kd.R (Kd.int .i64) 2 w32 w.heap.size (fun _ => True) (.slice (some ⟨go27, 0, none⟩) x3_1.length co27) y130 := (by rw [hw, Ny130.out]; exact HP31.1); clear HP31; have n0_ := AZ.mk (hp_); have n1_ := AZ.mk (Kd.R_over' (v := (.slice (some ⟨go27, 0, none⟩) x3_1.length co27)) (by (with_reducible repeat (first | apply Kd.R_alloc | apply Kd.R_drewN | apply Kd.R_drew)); exact HO129.out) (Kd.R_typed HO_3.out) (by decide) hg); have n2_ := AZ.mk ((by rw [hw]; exact pS (HB.out) GB27.out : Below w.heap.size w w32)); clear HO_3; clear HO129; clear HB; have HO_3 := n0_; have HO129 := n1_; have HB := n2_; clear n0_ n1_ n2_; clear hg hw hp_) | ((with_reducible refine gate_builtin (b := .append) (xs := #[.tmp 55, .tmp 57]) rfl ?_); (try (refine gate_guard (by rfl) ?_; dsimp only)); at_builtin; refine Kd.R_append (Kd.int .i64) (w0 := w) w.heap.size rfl (.tmp 55) (.tmp 57) 34 2 (.int .i64 0) 8 rfl Try.underlying34 info2 rfl (by decide) (by omega) (.slice (some ⟨go27, 0, none⟩) x3_1.length co27) y130 (rd x4_1 (ji21)) [.int .i64 (rd x4_1 (ji21))] (fun _ => True) (fun _ => False) rfl rfl ?aP (fun _ hk => hk.elim) ?aF ?aO ?aB ?aS ?aL ?_; (case aP => exact rfl); (case aB => exact (by repeat (first | (with_reducible first | exact HB.out | apply pA | apply pN | apply pD) | exact HB.out))); (case aF => exact (fun _ _ => trivial)); (case aO => exact (by (with_reducible repeat (first | apply Kd.R_alloc | apply Kd.R_drewN | apply Kd.R_drew)); exact HO_3.out)); (case aS => exact (pZ (by repeat (first | (with_reducible first | exact HB.out | apply pA | apply pN | apply pD) | exact HB.out)))); (case aL => have := LMc28.out; omega); intro v132 w33 ho hb hg hat; rw [← Ny131.out] at ho; have n0_ := AZ.mk (Kd.R_over' (by (with_reducible repeat (first | apply Kd.R_alloc | apply Kd.R_drewN | apply Kd.R_drew)); exact HO129.out) (Kd.R_typed (by (with_reducible repeat (first | apply Kd.R_alloc | apply Kd.R_drewN | apply Kd.R_drew)); exact HO_3.out)) (by decide) hg); have n1_ := AZ.mk (hb); have n2_ := AZ.mk (ho); clear HO129; clear HB; clear HO_3; have HO129 := n0_; have HB := n1_; have HO133 := n2_; clear n0_ n1_ n2_; clear ho hb hg hat))
     go_roundg kj14
     case measure => have := HK1.out; have := HJ14.out; omega
     case rel => exact ⟨(y131), (y127), (wrap64 (x5_1 + 1)), (by first | rfl | (simp; done) | (simp [*]; done)), H', ⟨by have := HK1.out; have := HJ14.out; omega⟩, ⟨by (with_reducible repeat (first | apply Kd.R_alloc | apply Kd.R_drewN | apply Kd.R_drew)); exact HO133.out⟩, ⟨by (with_reducible repeat (first | apply Kd.R_alloc | apply Kd.R_drewN | apply Kd.R_drew)); exact HO129.out⟩, ⟨by repeat (first | (with_reducible first | exact HB.out | apply pA | apply pN | apply pD) | exact HB.out)⟩⟩
end Go.Proofs.Yteeplponconnjaa.P
namespace Go.Proofs.Yteeplponconnjaa.P
open Go.RowKit Go.Proofs.YteeplponconnjaaW.PrintWords Go.Proofs.YteeplponconnjaaW.PrintLast Go.Proofs.YteeplponconnjaaW.PrintMore
attribute [local go_sem] max2_int min2_int max_two min_two max_three min_three max_four min_four
set_option linter.unusedVariables false
set_option linter.unusedSimpArgs false
mutual
def spec_l01Parents.l0 : Nat → ByteArray → List Int → List Int → Int → Option (List Int)
 | 0, _, _, _, _ => none
 | k + 1, x0, x3, x4, x5 => if x5 < (x0.size : Int) then (spec_l01Parents.l1 k x0 x3 x4 x5 (-1) 0) else (some x4)
def spec_l01Parents.l1 : Nat → ByteArray → List Int → List Int → Int → Int → Int → Option (List Int)
 | 0, _, _, _, _, _, _ => none
 | k + 1, x0, x3, x4, x5, x6, x7 => if x7 < x5 then (if 0 ≤ x7 then (if x7 < (x0.size : Int) then ((spec_l01Call.f (bt x0 x7)).bind fun t147 => (if t147 = true then (if x7 < (x3.length : Int) then (if (rd x3 x7) = (-2) then (spec_l01Parents.l1 k x0 x3 x4 x5 x7 (wrap64 (x7 + 1))) else (if (rd x3 x7) > x5 then (spec_l01Parents.l1 k x0 x3 x4 x5 x7 (wrap64 (x7 + 1))) else (spec_l01Parents.l1 k x0 x3 x4 x5 x6 (wrap64 (x7 + 1))))) else (none)) else (spec_l01Parents.l1 k x0 x3 x4 x5 x6 (wrap64 (x7 + 1))))) else (none)) else (none)) else (if x4.length < 17592186044416 then (spec_l01Parents.l0 k x0 x3 (x4 ++ [x6]) (wrap64 (x5 + 1))) else (none))
end
def spec_l01Parents.f (k : Nat) (a0 : ByteArray) : Option (List Int) := (spec_l01Partners.f k a0).bind fun t141 => (spec_l01Parents.l0 k a0 t141 (([] : List Int)) 0)
set_option maxHeartbeats 8000000 in
set_option maxRecDepth 100000 in
theorem spec_l01Parents.calls (k : Nat) (a0 : ByteArray) (r : List Int) (w : World) (h : spec_l01Parents.f k a0 = some r) :
  Calls Try.prog 48 #[.string a0] w fun e w' => ∃ v0_ : Value, e = .returned (v0_) ∧ Kd.R (Kd.int .i64) 2 w' w.heap.size (fun _ => True) v0_ r ∧ Below w.heap.size w w' := by
 have HB := AZ.mk (Below.refl w.heap.size w)
 have H : ((spec_l01Partners.f k a0).bind fun t141 => (spec_l01Parents.l0 k a0 t141 (([] : List Int)) 0)) = some r := h
 clear h
 replace H := Option.bind_eq_some_iff.mp H
 obtain ⟨t141, A20, H⟩ := H
 replace H : (spec_l01Parents.l0 k a0 t141 (([] : List Int)) 0) = some r := H
 have A2 := AZ.mk A20
 clear A20
 obtain ⟨y144, hy144⟩ : ∃ y_ : List Int, y_ = (([] : List Int)) := ⟨_, rfl⟩
 replace H : (spec_l01Parents.l0 k a0 t141 y144 0) = some r := by first | (rw [hy144]; with_reducible exact H) | (have H2_ := (Option.bind_some _ _).symm.trans H; rw [hy144]; with_reducible exact H2_) | (have H2_ := (Option.bind_some _ _).symm.trans H; with_reducible exact H2_) | with_reducible exact H | (rw [hy144]; exact H) | exact H
 have Ny144 := AZ.mk hy144
 clear hy144
 have H' := AZ.mk H
 clear H
 go_enter Try.func48, Try.ntmps48
 go_wp2_with (first | ((with_reducible refine gate_callee (f := 58) rfl ?_); refine goesL_ (some 9) rfl rfl Try.func58 (by kernel_rfl) rfl #[.string a0] rfl (by (try simp only [List.map_toArray, List.map_cons, List.map_nil]); first | done | rfl | (simp only [List.length_drop, List.length_take]; rfl)) ?_; (with_reducible refine (spec_l01Partners.calls k a0 t141 _ A2.out).mono ?_); rintro e w3 ⟨v142, rfl, ho0, hb⟩; refine ⟨_, rfl, ?_⟩; have n0_ := AZ.mk (Kd.R_lower ho0 (pZ (by repeat (first | (with_reducible first | exact HB.out | apply pA | apply pN | apply pD) | exact HB.out)))); have n1_ := AZ.mk (pT (by repeat (first | (with_reducible first | exact HB.out | apply pA | apply pN | apply pD) | exact HB.out)) hb); clear HB; have HO143 := n0_; have HB := n1_; clear n0_ n1_; (try clear hb); (try clear hb2); (try clear hk); (try clear hi); (try clear ho0)) | ((with_reducible refine gate_dst (N := 10) rfl ?_); refine Kd.R_lit (Kd.int .i64) _ 2 ?hg (N := 10) ?hd (xs := ([] : List Int)) (inner := []) (ok := fun _ => True) (okp := fun _ => True) ?hr ?hp (fun _ hk => hk) trivial (Below.refl _ _) (Nat.le_refl _) (by simp) ?_; (case hd => rfl); (case hg => rfl); (case hr => first | (go_simp; done) | (go_simp; rfl)); (case hp => exact (Reps.none _ _)); intro v145 w4 ho5 hb hg_ hnew_; clear hg_ hnew_; (first | rw [← Ny144.out] at ho5 | (simp only [Int.reduceToNat] at ho5; rw [← Ny144.out] at ho5)); have n0_ := AZ.mk (Kd.R_elder' (by (with_reducible repeat (first | apply Kd.R_alloc | apply Kd.R_drewN | apply Kd.R_drew)); exact HO143.out) (Kd.R_base ho5) hb); have n1_ := AZ.mk (Kd.R_lower (Kd.R_new' ho5 (Kd.R_lt (by (with_reducible repeat (first | apply Kd.R_alloc | apply Kd.R_drewN | apply Kd.R_drew)); exact HO143.out))) (pZ (by repeat (first | (with_reducible first | exact HB.out | apply pA | apply pN | apply pD) | exact HB.out)))); have n2_ := AZ.mk (pT (by repeat (first | (with_reducible first | exact HB.out | apply pA | apply pN | apply pD) | exact HB.out)) hb); clear HO143; clear HB; have HO143 := n0_; have HO146 := n1_; have HB := n2_; clear n0_ n1_ n2_; clear hb ho5))
 go_loopg [4, 5] k (fun kq v4 v5 w' => ∃ (x4_1 : List Int) (x5_1 : Int), v5 = .int .i64 x5_1 ∧ AZ (spec_l01Parents.l0 kq a0 t141 x4_1 x5_1 = some r) ∧ AZ (kq ≤ k) ∧ AZ (Kd.R (Kd.int .i64) 2 w' w.heap.size (fun k_ => some k_ ≠ (v4 : Value).ownBlock) v142 t141) ∧ AZ (Kd.R (Kd.int .i64) 2 w' w.heap.size (fun k_ => some k_ ≠ (v142 : Value).ownBlock) v4 x4_1) ∧ AZ (Below w.heap.size w w'))
 case atStart => exact ⟨(y144), (0), (by first | rfl | (simp; done) | (simp [*]; done)), H', ⟨Nat.le_refl _⟩, ⟨by (with_reducible repeat (first | apply Kd.R_alloc | apply Kd.R_drewN | apply Kd.R_drew)); exact Kd.R_mono HO143.out (fun _ hk => hk.2)⟩, ⟨by (with_reducible repeat (first | apply Kd.R_alloc | apply Kd.R_drewN | apply Kd.R_drew)); exact Kd.R_mono HO146.out (fun _ hk => hk.2)⟩, ⟨by repeat (first | (with_reducible first | exact HB.out | apply pA | apply pN | apply pD) | exact HB.out)⟩⟩
 case round =>
  clear H'
  try clear p2
  try clear c4
  try clear c5
  obtain ⟨x4_1, x5_1, rfl, HA, HK1, HO_3, HO_4, HB⟩ := hrel
  cases gk with
  | zero => exact absurd HA.out (by simp [spec_l01Parents.l0])
  | succ k1 =>
   have H := HA.out
   clear HA
   simp only [spec_l01Parents.l0] at H
   by_cases c6 : x5_1 < (a0.size : Int)
   rotate_left
   ·rw [if_neg c6] at H
    have c6b0 : decide (x5_1 < (a0.size : Int)) = false := decide_eq_false c6
    clear c6
    obtain rfl := Option.some.inj H
    go_wp2
    go_ret
    exact ⟨_, by first | rfl | (simp [errW_none, errW_some] <;> rfl) | (simp [*, errW_none, errW_some] <;> rfl), by (with_reducible repeat (first | apply Kd.R_alloc | apply Kd.R_drewN | apply Kd.R_drew)); exact Kd.R_mono HO_4.out (fun _ hk => trivial), by repeat (first | (with_reducible first | exact HB.out | apply pA | apply pN | apply pD) | exact HB.out)⟩
   rw [if_pos c6] at H
   have c6b0 : decide (x5_1 < (a0.size : Int)) = true := decide_eq_true c6
   clear c6
   have H' := AZ.mk H
   clear H
   go_wp2
   go_loopg [6, 7] k1 (fun kq v6 v7 w' => ∃ (x6_2 : Int) (x7_2 : Int), v6 = .int .i64 x6_2 ∧ v7 = .int .i64 x7_2 ∧ AZ (spec_l01Parents.l1 kq a0 t141 x4_1 x5_1 x6_2 x7_2 = some r) ∧ AZ (kq ≤ k1) ∧ AZ (Kd.R (Kd.int .i64) 2 w' w.heap.size (fun k_ => some k_ ≠ (u4 : Value).ownBlock) v142 t141) ∧ AZ (Kd.R (Kd.int .i64) 2 w' w.heap.size (fun k_ => some k_ ≠ (v142 : Value).ownBlock) u4 x4_1) ∧ AZ (Below w.heap.size w w'))
   case atStart => exact ⟨((-1)), (0), (by first | rfl | (simp; done) | (simp [*]; done)), (by first | rfl | (simp; done) | (simp [*]; done)), H', ⟨Nat.le_refl _⟩, ⟨by (with_reducible repeat (first | apply Kd.R_alloc | apply Kd.R_drewN | apply Kd.R_drew)); exact HO_3.out⟩, ⟨by (with_reducible repeat (first | apply Kd.R_alloc | apply Kd.R_drewN | apply Kd.R_drew)); exact HO_4.out⟩, ⟨by repeat (first | (with_reducible first | exact HB.out | apply pA | apply pN | apply pD) | exact HB.out)⟩⟩
   case round =>
    clear H'
    try clear p2
    try clear c4
    try clear c5
    try clear c6
    try clear c6b0
    try clear p2
    obtain ⟨x6_2, x7_2, rfl, rfl, HA, HK2, HO_3, HO_4, HB⟩ := hrel
    cases gk with
    | zero => exact absurd HA.out (by simp [spec_l01Parents.l1])
    | succ k2 =>
     have H := HA.out
     clear HA
     simp only [spec_l01Parents.l1] at H
     by_cases c7 : x7_2 < x5_1
     rotate_left
     ·rw [if_neg c7] at H
      have c7b0 : decide (x7_2 < x5_1) = false := decide_eq_false c7
      clear c7
      by_cases c19 : x4_1.length < 17592186044416
      rotate_left
      ·rw [if_neg c19] at H
       exact absurd H (by simp)
      rw [if_pos c19] at H
      have LMc19 := AZ.mk c19
      clear c19
      obtain ⟨y150, hy150⟩ : ∃ y_ : List Int, y_ = (x4_1 ++ [x6_2]) := ⟨_, rfl⟩
      replace H : (spec_l01Parents.l0 k2 a0 t141 y150 (wrap64 (x5_1 + 1))) = some r := by first | (rw [hy150]; with_reducible exact H) | (have H2_ := (Option.bind_some _ _).symm.trans H; rw [hy150]; with_reducible exact H2_) | (have H2_ := (Option.bind_some _ _).symm.trans H; with_reducible exact H2_) | with_reducible exact H | (rw [hy150]; exact H) | exact H
      have Ny150 := AZ.mk hy150
      clear hy150
      have H' := AZ.mk H
      clear H
      go_wp2_with (first | ((with_reducible refine gate_builtin (b := .append) (xs := #[.tmp 42, .tmp 44]) rfl ?_); at_builtin; refine Kd.R_append (Kd.int .i64) (w0 := w) w.heap.size rfl (.tmp 42) (.tmp 44) 34 2 (.int .i64 0) 8 rfl Try.underlying34 info2 rfl (by decide) (by omega) u4 x4_1 x6_2 [.int .i64 x6_2] (fun k_ => some k_ ≠ (v142 : Value).ownBlock) (fun _ => False) rfl rfl ?aP (fun _ hk => hk.elim) ?aF ?aO ?aB ?aS ?aL ?_; (case aP => exact rfl); (case aB => exact (by repeat (first | (with_reducible first | exact HB.out | apply pA | apply pN | apply pD) | exact HB.out))); (case aF => exact (fun k_ hk => Kd.fresh' (Kd.R_lt (by (with_reducible repeat (first | apply Kd.R_alloc | apply Kd.R_drewN | apply Kd.R_drew)); exact HO_3.out)) k_ hk)); (case aO => exact (by (with_reducible repeat (first | apply Kd.R_alloc | apply Kd.R_drewN | apply Kd.R_drew)); exact HO_4.out)); (case aS => exact (pZ (by repeat (first | (with_reducible first | exact HB.out | apply pA | apply pN | apply pD) | exact HB.out)))); (case aL => have := LMc19.out; omega); intro v151 w20 ho hb hg hat; rw [← Ny150.out] at ho; have n0_ := AZ.mk (Kd.R_after (ok := (fun _ => True)) (by (with_reducible repeat (first | apply Kd.R_alloc | apply Kd.R_drewN | apply Kd.R_drew)); exact Kd.R_mono HO_3.out (fun _ hk => ⟨trivial, hk⟩)) hg hat); have n1_ := AZ.mk (hb); have n2_ := AZ.mk (ho); clear HO_3; clear HB; clear HO_4; have HO_3 := n0_; have HB := n1_; have HO152 := n2_; clear n0_ n1_ n2_; clear ho hb hg hat))
      go_roundg k2
      case measure => have := HK1.out; have := HK2.out; omega
      case rel => exact ⟨(y150), (wrap64 (x5_1 + 1)), (by first | rfl | (simp; done) | (simp [*]; done)), H', ⟨by have := HK1.out; have := HK2.out; omega⟩, ⟨by (with_reducible repeat (first | apply Kd.R_alloc | apply Kd.R_drewN | apply Kd.R_drew)); exact Kd.R_mono HO_3.out (fun _ hk => hk.2)⟩, ⟨by (with_reducible repeat (first | apply Kd.R_alloc | apply Kd.R_drewN | apply Kd.R_drew)); exact HO152.out⟩, ⟨by repeat (first | (with_reducible first | exact HB.out | apply pA | apply pN | apply pD) | exact HB.out)⟩⟩
     rw [if_pos c7] at H
     have c7b0 : decide (x7_2 < x5_1) = true := decide_eq_true c7
     clear c7
     by_cases c8 : 0 ≤ x7_2
     rotate_left
     ·rw [if_neg c8] at H
      exact absurd H (by simp)
     rw [if_pos c8] at H
     have c8b0 : decide (0 ≤ x7_2) = true := decide_eq_true c8
     clear c8
     by_cases c9 : x7_2 < (a0.size : Int)
     rotate_left
     ·rw [if_neg c9] at H
      exact absurd H (by simp)
     rw [if_pos c9] at H
     have c9b0 : decide (x7_2 < (a0.size : Int)) = true := decide_eq_true c9
     clear c9
     replace H := Option.bind_eq_some_iff.mp H
     obtain ⟨t147, A110, H⟩ := H
     replace H : (if t147 = true then (if x7_2 < (t141.length : Int) then (if (rd t141 x7_2) = (-2) then (spec_l01Parents.l1 k2 a0 t141 x4_1 x5_1 x7_2 (wrap64 (x7_2 + 1))) else (if (rd t141 x7_2) > x5_1 then (spec_l01Parents.l1 k2 a0 t141 x4_1 x5_1 x7_2 (wrap64 (x7_2 + 1))) else (spec_l01Parents.l1 k2 a0 t141 x4_1 x5_1 x6_2 (wrap64 (x7_2 + 1))))) else (none)) else (spec_l01Parents.l1 k2 a0 t141 x4_1 x5_1 x6_2 (wrap64 (x7_2 + 1)))) = some r := H
     have A11 := AZ.mk A110
     clear A110
     by_cases c12 : t147 = true
     rotate_left
     ·replace c12 := Bool.eq_false_iff.mpr c12
      subst c12
      have H1 : (spec_l01Parents.l1 k2 a0 t141 x4_1 x5_1 x6_2 (wrap64 (x7_2 + 1))) = some r := by rw [if_neg (show ¬ (false = true) by decide)] at H; exact H
      clear H
      have H := H1
      clear H1
      have H' := AZ.mk H
      clear H
      have p10 : 0 ≤ (x7_2 : Int) := oT (by first | (with_reducible assumption) | assumption)
      have q10 : x7_2 < (a0.size : Int) := oT (by first | (with_reducible assumption) | assumption)
      have hx10 := bt_at a0 x7_2
      replace p10 := eq_true p10
      replace q10 := eq_true q10
      go_wp2_with (first | ((with_reducible refine gate_callee (f := 59) rfl ?_); refine goesL_ (some 25) rfl rfl Try.func59 (by kernel_rfl) rfl #[.int .u8 (bt a0 x7_2)] rfl (by (try simp only [List.map_toArray, List.map_cons, List.map_nil]); first | done | rfl | (simp only [List.length_drop, List.length_take]; rfl)) ?_; (with_reducible refine (spec_l01Call.calls (bt a0 x7_2) false _ A11.out).mono ?_); rintro e w' ⟨rfl, ⟨nd, rfl⟩⟩; refine ⟨_, rfl, ?_⟩))
      go_roundg k2
      case measure => have := HK1.out; have := HK2.out; omega
      case rel => exact ⟨(x6_2), (wrap64 (x7_2 + 1)), (by first | rfl | (simp; done) | (simp [*]; done)), (by first | rfl | (simp; done) | (simp [*]; done)), H', ⟨by have := HK1.out; have := HK2.out; omega⟩, ⟨by (with_reducible repeat (first | apply Kd.R_alloc | apply Kd.R_drewN | apply Kd.R_drew)); exact HO_3.out⟩, ⟨by (with_reducible repeat (first | apply Kd.R_alloc | apply Kd.R_drewN | apply Kd.R_drew)); exact HO_4.out⟩, ⟨by repeat (first | (with_reducible first | exact HB.out | apply pA | apply pN | apply pD) | exact HB.out)⟩⟩
     subst c12
     have H1 : (if x7_2 < (t141.length : Int) then (if (rd t141 x7_2) = (-2) then (spec_l01Parents.l1 k2 a0 t141 x4_1 x5_1 x7_2 (wrap64 (x7_2 + 1))) else (if (rd t141 x7_2) > x5_1 then (spec_l01Parents.l1 k2 a0 t141 x4_1 x5_1 x7_2 (wrap64 (x7_2 + 1))) else (spec_l01Parents.l1 k2 a0 t141 x4_1 x5_1 x6_2 (wrap64 (x7_2 + 1))))) else (none)) = some r := by rw [if_pos rfl] at H; exact H
     clear H
     have H := H1
     clear H1
     by_cases c13 : x7_2 < (t141.length : Int)
     rotate_left
     ·rw [if_neg c13] at H
      exact absurd H (by simp)
     rw [if_pos c13] at H
     have c13b0 : decide (x7_2 < (t141.length : Int)) = true := decide_eq_true c13
     clear c13
     by_cases c14 : (rd t141 x7_2) = (-2)
     ·rw [if_pos c14] at H
      have c14b0 : ((rd t141 x7_2) == (-2)) = true := beq_iff_eq.mpr c14
      have c14b1 : ((rd t141 x7_2) != (-2)) = false := bne_eq_false_iff_eq.mpr c14
      clear c14
      have H' := AZ.mk H
      clear H
      have p10 : 0 ≤ (x7_2 : Int) := oT (by first | (with_reducible assumption) | assumption)
      have q10 : x7_2 < (a0.size : Int) := oT (by first | (with_reducible assumption) | assumption)
      have hx10 := bt_at a0 x7_2
      replace p10 := eq_true p10
      replace q10 := eq_true q10
      go_wp2_with (first | ((with_reducible refine gate_callee (f := 59) rfl ?_); refine goesL_ (some 25) rfl rfl Try.func59 (by kernel_rfl) rfl #[.int .u8 (bt a0 x7_2)] rfl (by (try simp only [List.map_toArray, List.map_cons, List.map_nil]); first | done | rfl | (simp only [List.length_drop, List.length_take]; rfl)) ?_; (with_reducible refine (spec_l01Call.calls (bt a0 x7_2) true _ A11.out).mono ?_); rintro e w' ⟨rfl, ⟨nd, rfl⟩⟩; refine ⟨_, rfl, ?_⟩; obtain ⟨Ao15, co15, eo15⟩ := Kd.R_slice HO_3.out; subst eo15; have p148 : 0 ≤ (x7_2 : Int) := oT (by first | (with_reducible assumption) | assumption); have q148 : x7_2 < (t141.length : Int) := oT (by first | (with_reducible assumption) | assumption); obtain ⟨ad148, e148, hx148_0⟩ := Kd.at_int (Kd.R_reads' HO_3.out).2.2 x7_2 p148 q148; cases e148; replace p148 := eq_true p148; replace q148 := eq_true q148))
      go_roundg k2
      case measure => have := HK1.out; have := HK2.out; omega
      case rel => exact ⟨(x7_2), (wrap64 (x7_2 + 1)), (by first | rfl | (simp; done) | (simp [*]; done)), (by first | rfl | (simp; done) | (simp [*]; done)), H', ⟨by have := HK1.out; have := HK2.out; omega⟩, ⟨by (with_reducible repeat (first | apply Kd.R_alloc | apply Kd.R_drewN | apply Kd.R_drew)); exact HO_3.out⟩, ⟨by (with_reducible repeat (first | apply Kd.R_alloc | apply Kd.R_drewN | apply Kd.R_drew)); exact HO_4.out⟩, ⟨by repeat (first | (with_reducible first | exact HB.out | apply pA | apply pN | apply pD) | exact HB.out)⟩⟩
     rw [if_neg c14] at H
     have c14b0 : ((rd t141 x7_2) == (-2)) = false := beq_eq_false_iff_ne.mpr c14
     have c14b1 : ((rd t141 x7_2) != (-2)) = true := bne_iff_ne.mpr c14
     by_cases c16 : (rd t141 x7_2) > x5_1
     ·rw [if_pos c16] at H
      have c16b0 : decide (x5_1 < (rd t141 x7_2)) = true := decide_eq_true c16
      clear c16
      have H' := AZ.mk H
      clear H
      have p10 : 0 ≤ (x7_2 : Int) := oT (by first | (with_reducible assumption) | assumption)
      have q10 : x7_2 < (a0.size : Int) := oT (by first | (with_reducible assumption) | assumption)
      have hx10 := bt_at a0 x7_2
      replace p10 := eq_true p10
      replace q10 := eq_true q10
      go_wp2_with (first | ((with_reducible refine gate_callee (f := 59) rfl ?_); refine goesL_ (some 25) rfl rfl Try.func59 (by kernel_rfl) rfl #[.int .u8 (bt a0 x7_2)] rfl (by (try simp only [List.map_toArray, List.map_cons, List.map_nil]); first | done | rfl | (simp only [List.length_drop, List.length_take]; rfl)) ?_; (with_reducible refine (spec_l01Call.calls (bt a0 x7_2) true _ A11.out).mono ?_); rintro e w' ⟨rfl, ⟨nd, rfl⟩⟩; refine ⟨_, rfl, ?_⟩; obtain ⟨Ao17, co17, eo17⟩ := Kd.R_slice HO_3.out; subst eo17; have p148 : 0 ≤ (x7_2 : Int) := oT (by first | (with_reducible assumption) | assumption); have q148 : x7_2 < (t141.length : Int) := oT (by first | (with_reducible assumption) | assumption); obtain ⟨ad148, e148, hx148_0⟩ := Kd.at_int (Kd.R_reads' HO_3.out).2.2 x7_2 p148 q148; cases e148; replace p148 := eq_true p148; replace q148 := eq_true q148; have p149 : 0 ≤ (x7_2 : Int) := oT (by first | (with_reducible assumption) | assumption); have q149 : x7_2 < (t141.length : Int) := oT (by first | (with_reducible assumption) | assumption); obtain ⟨ad149, e149, hx149_0⟩ := Kd.at_int (Kd.R_reads' HO_3.out).2.2 x7_2 p149 q149; obtain rfl : ad148 = ad149 := (by injection e149); replace p149 := eq_true p149; replace q149 := eq_true q149))
      go_roundg k2
      case measure => have := HK1.out; have := HK2.out; omega
      case rel => exact ⟨(x7_2), (wrap64 (x7_2 + 1)), (by first | rfl | (simp; done) | (simp [*]; done)), (by first | rfl | (simp; done) | (simp [*]; done)), H', ⟨by have := HK1.out; have := HK2.out; omega⟩, ⟨by (with_reducible repeat (first | apply Kd.R_alloc | apply Kd.R_drewN | apply Kd.R_drew)); exact HO_3.out⟩, ⟨by (with_reducible repeat (first | apply Kd.R_alloc | apply Kd.R_drewN | apply Kd.R_drew)); exact HO_4.out⟩, ⟨by repeat (first | (with_reducible first | exact HB.out | apply pA | apply pN | apply pD) | exact HB.out)⟩⟩
     rw [if_neg c16] at H
     have c16b0 : decide (x5_1 < (rd t141 x7_2)) = false := decide_eq_false c16
     clear c16
     have H' := AZ.mk H
     clear H
     have p10 : 0 ≤ (x7_2 : Int) := oT (by first | (with_reducible assumption) | assumption)
     have q10 : x7_2 < (a0.size : Int) := oT (by first | (with_reducible assumption) | assumption)
     have hx10 := bt_at a0 x7_2
     replace p10 := eq_true p10
     replace q10 := eq_true q10
     go_wp2_with (first | ((with_reducible refine gate_callee (f := 59) rfl ?_); refine goesL_ (some 25) rfl rfl Try.func59 (by kernel_rfl) rfl #[.int .u8 (bt a0 x7_2)] rfl (by (try simp only [List.map_toArray, List.map_cons, List.map_nil]); first | done | rfl | (simp only [List.length_drop, List.length_take]; rfl)) ?_; (with_reducible refine (spec_l01Call.calls (bt a0 x7_2) true _ A11.out).mono ?_); rintro e w' ⟨rfl, ⟨nd, rfl⟩⟩; refine ⟨_, rfl, ?_⟩; obtain ⟨Ao18, co18, eo18⟩ := Kd.R_slice HO_3.out; subst eo18; have p148 : 0 ≤ (x7_2 : Int) := oT (by first | (with_reducible assumption) | assumption); have q148 : x7_2 < (t141.length : Int) := oT (by first | (with_reducible assumption) | assumption); obtain ⟨ad148, e148, hx148_0⟩ := Kd.at_int (Kd.R_reads' HO_3.out).2.2 x7_2 p148 q148; cases e148; replace p148 := eq_true p148; replace q148 := eq_true q148; have p149 : 0 ≤ (x7_2 : Int) := oT (by first | (with_reducible assumption) | assumption); have q149 : x7_2 < (t141.length : Int) := oT (by first | (with_reducible assumption) | assumption); obtain ⟨ad149, e149, hx149_0⟩ := Kd.at_int (Kd.R_reads' HO_3.out).2.2 x7_2 p149 q149; obtain rfl : ad148 = ad149 := (by injection e149); replace p149 := eq_true p149; replace q149 := eq_true q149))
     go_roundg k2
     case measure => have := HK1.out; have := HK2.out; omega
     case rel => exact ⟨(x6_2), (wrap64 (x7_2 + 1)), (by first | rfl | (simp; done) | (simp [*]; done)), (by first | rfl | (simp; done) | (simp [*]; done)), H', ⟨by have := HK1.out; have := HK2.out; omega⟩, ⟨by (with_reducible repeat (first | apply Kd.R_alloc | apply Kd.R_drewN | apply Kd.R_drew)); exact HO_3.out⟩, ⟨by (with_reducible repeat (first | apply Kd.R_alloc | apply Kd.R_drewN | apply Kd.R_drew)); exact HO_4.out⟩, ⟨by repeat (first | (with_reducible first | exact HB.out | apply pA | apply pN | apply pD) | exact HB.out)⟩⟩
end Go.Proofs.Yteeplponconnjaa.P
namespace Go.Proofs.Yteeplponconnjaa.P
open Go.RowKit Go.Proofs.YteeplponconnjaaW.PrintWords Go.Proofs.YteeplponconnjaaW.PrintLast Go.Proofs.YteeplponconnjaaW.PrintMore
attribute [local go_sem] max2_int min2_int max_two min_two max_three min_three max_four min_four
set_option linter.unusedVariables false
set_option linter.unusedSimpArgs false
def spec_l05Node.f (a0 : Int) : Option (Bool) := (spec_l01Return.f a0).bind fun t153 => (some (!t153))
set_option maxHeartbeats 8000000 in
set_option maxRecDepth 100000 in
theorem spec_l05Node.calls (a0 : Int) (r : Bool) (w : World) (h : spec_l05Node.f a0 = some r) :
  Calls Try.prog 49 #[.int .u8 a0] w fun e w' => e = .returned (.bool r) ∧ Drawn0 w w' := by
 have H : ((spec_l01Return.f a0).bind fun t153 => (some (!t153))) = some r := h
 clear h
 replace H := Option.bind_eq_some_iff.mp H
 obtain ⟨t153, A20, H⟩ := H
 replace H : (some (!t153)) = some r := H
 have A2 := AZ.mk A20
 clear A20
 obtain rfl := Option.some.inj H
 go_enter Try.func49, Try.ntmps49
 go_wp2_with (first | ((with_reducible refine gate_callee (f := 60) rfl ?_); refine goesL_ (some 4) rfl rfl Try.func60 (by kernel_rfl) rfl #[.int .u8 a0] rfl (by (try simp only [List.map_toArray, List.map_cons, List.map_nil]); first | done | rfl | (simp only [List.length_drop, List.length_take]; rfl)) ?_; (with_reducible refine (spec_l01Return.calls a0 t153 _ A2.out).mono ?_); rintro e w' ⟨rfl, ⟨nd, rfl⟩⟩; refine ⟨_, rfl, ?_⟩))
 go_ret
 exact ⟨by first | rfl | (simp; done) | (simp [*]; done), by repeat (first | exact Drawn0.refl _ | apply Drawn0.step)⟩
end Go.Proofs.Yteeplponconnjaa.P
namespace Go.Proofs.Yteeplponconnjaa.P
open Go.RowKit Go.Proofs.YteeplponconnjaaW.PrintWords Go.Proofs.YteeplponconnjaaW.PrintLast Go.Proofs.YteeplponconnjaaW.PrintMore
attribute [local go_sem] max2_int min2_int max_two min_two max_three min_three max_four min_four
set_option linter.unusedVariables false
set_option linter.unusedSimpArgs false
def spec_l05Passes.f (a0 : ByteArray) (a1 : Int) : Option (Bool) := if a0.toList = ([42] : List UInt8) then ((spec_l01Call.f a1).bind fun t154 => (some t154)) else (if a0.toList = ([46] : List UInt8) then (if a1 = 97 then (some true) else (some (a1 == 98))) else (some (a0.toList == (strOfNums (([a1] : List Int))).toList)))
set_option maxHeartbeats 8000000 in
set_option maxRecDepth 100000 in
theorem spec_l05Passes.calls (a0 : ByteArray) (a1 : Int) (r : Bool) (w : World) (h : spec_l05Passes.f a0 a1 = some r) :
  Calls Try.prog 50 #[.string a0, .int .u8 a1] w fun e w' => e = .returned (.bool r) ∧ Below w.heap.size w w' := by
 have HB := AZ.mk (Below.refl w.heap.size w)
 have H : (if a0.toList = ([42] : List UInt8) then ((spec_l01Call.f a1).bind fun t154 => (some t154)) else (if a0.toList = ([46] : List UInt8) then (if a1 = 97 then (some true) else (some (a1 == 98))) else (some (a0.toList == (strOfNums (([a1] : List Int))).toList)))) = some r := h
 clear h
 by_cases c3 : a0.toList = ([42] : List UInt8)
 ·rw [if_pos c3] at H
  have c3b0 : (a0.toList == ([42] : List UInt8)) = true := beq_iff_eq.mpr c3
  have c3b1 : (a0.toList != ([42] : List UInt8)) = false := bne_eq_false_iff_eq.mpr c3
  clear c3
  replace H := Option.bind_eq_some_iff.mp H
  obtain ⟨t154, A40, H⟩ := H
  replace H : (some t154) = some r := H
  have A4 := AZ.mk A40
  clear A40
  obtain rfl := Option.some.inj H
  go_enter Try.func50, Try.ntmps50
  go_wp2_with (first | ((with_reducible refine gate_callee (f := 59) rfl ?_); refine goesL_ (some 9) rfl rfl Try.func59 (by kernel_rfl) rfl #[.int .u8 a1] rfl (by (try simp only [List.map_toArray, List.map_cons, List.map_nil]); first | done | rfl | (simp only [List.length_drop, List.length_take]; rfl)) ?_; (with_reducible refine (spec_l01Call.calls a1 t154 _ A4.out).mono ?_); rintro e w' ⟨rfl, ⟨nd, rfl⟩⟩; refine ⟨_, rfl, ?_⟩))
  go_ret
  exact ⟨by first | rfl | (simp [errW_none, errW_some] <;> rfl) | (simp [*, errW_none, errW_some] <;> rfl), by repeat (first | (with_reducible first | exact HB.out | apply pA | apply pN | apply pD) | exact HB.out)⟩
 rw [if_neg c3] at H
 have c3b0 : (a0.toList == ([42] : List UInt8)) = false := beq_eq_false_iff_ne.mpr c3
 have c3b1 : (a0.toList != ([42] : List UInt8)) = true := bne_iff_ne.mpr c3
 by_cases c5 : a0.toList = ([46] : List UInt8)
 ·rw [if_pos c5] at H
  have c5b0 : (a0.toList == ([46] : List UInt8)) = true := beq_iff_eq.mpr c5
  have c5b1 : (a0.toList != ([46] : List UInt8)) = false := bne_eq_false_iff_eq.mpr c5
  clear c5
  by_cases c6 : a1 = 97
  rotate_left
  ·rw [if_neg c6] at H
   have c6b0 : (a1 == 97) = false := beq_eq_false_iff_ne.mpr c6
   have c6b1 : (a1 != 97) = true := bne_iff_ne.mpr c6
   obtain rfl := Option.some.inj H
   go_enter Try.func50, Try.ntmps50
   go_wp2
   go_ret
   exact ⟨by first | rfl | (simp [errW_none, errW_some] <;> rfl) | (simp [*, errW_none, errW_some] <;> rfl), by repeat (first | (with_reducible first | exact HB.out | apply pA | apply pN | apply pD) | exact HB.out)⟩
  rw [if_pos c6] at H
  have c6b0 : (a1 == 97) = true := beq_iff_eq.mpr c6
  have c6b1 : (a1 != 97) = false := bne_eq_false_iff_eq.mpr c6
  clear c6
  obtain rfl := Option.some.inj H
  go_enter Try.func50, Try.ntmps50
  go_wp2
  go_ret
  exact ⟨by first | rfl | (simp [errW_none, errW_some] <;> rfl) | (simp [*, errW_none, errW_some] <;> rfl), by repeat (first | (with_reducible first | exact HB.out | apply pA | apply pN | apply pD) | exact HB.out)⟩
 rw [if_neg c5] at H
 have c5b0 : (a0.toList == ([46] : List UInt8)) = false := beq_eq_false_iff_ne.mpr c5
 have c5b1 : (a0.toList != ([46] : List UInt8)) = true := bne_iff_ne.mpr c5
 obtain ⟨y155, hy155⟩ : ∃ y_ : List Int, y_ = (([a1] : List Int)) := ⟨_, rfl⟩
 replace H : (some (a0.toList == (strOfNums y155).toList)) = some r := by first | (rw [hy155]; with_reducible exact H) | (have H2_ := (Option.bind_some _ _).symm.trans H; rw [hy155]; with_reducible exact H2_) | (have H2_ := (Option.bind_some _ _).symm.trans H; with_reducible exact H2_) | with_reducible exact H | (rw [hy155]; exact H) | exact H
 have Ny155 := AZ.mk hy155
 clear hy155
 obtain rfl := Option.some.inj H
 go_enter Try.func50, Try.ntmps50
 go_wp2_with (first | ((with_reducible refine gate_dst (N := 20) rfl ?_); refine Kd.R_lit (Kd.int .u8) _ 5 ?hg (N := 20) ?hd (xs := ([a1] : List Int)) (inner := [.int .u8 a1]) (ok := fun _ => True) (okp := fun _ => True) ?hr ?hp (fun _ hk => hk) trivial (Below.refl _ _) (Nat.le_refl _) (by simp) ?_; (case hd => rfl); (case hg => rfl); (case hr => first | (go_simp; done) | (go_simp; rfl)); (case hp => exact (Reps.one (show Kd.M (Kd.int .u8) _ _ _ a1 [.int .u8 a1] from rfl) (Reps.none _ _))); intro v156 w7 ho8 hb hg_ hnew_; clear hg_ hnew_; (first | rw [← Ny155.out] at ho8 | (simp only [Int.reduceToNat] at ho8; rw [← Ny155.out] at ho8)); have n0_ := AZ.mk (Kd.R_lower ho8 (pZ (by repeat (first | (with_reducible first | exact HB.out | apply pA | apply pN | apply pD) | exact HB.out)))); have n1_ := AZ.mk (pT (by repeat (first | (with_reducible first | exact HB.out | apply pA | apply pN | apply pD) | exact HB.out)) hb); clear HB; have HO157 := n0_; have HB := n1_; clear n0_ n1_; clear hb ho8; have hcv9 := own_string (P := Try.prog) Try.underlying82 Try.underlying5 Try.underlying9 (Kd.own_of_R HO157.out)))
 go_ret
 exact ⟨by first | rfl | (simp [errW_none, errW_some] <;> rfl) | (simp [*, errW_none, errW_some] <;> rfl), by repeat (first | (with_reducible first | exact HB.out | apply pA | apply pN | apply pD) | exact HB.out)⟩
end Go.Proofs.Yteeplponconnjaa.P
namespace Go.Proofs.Yteeplponconnjaa.P
open Go.RowKit Go.Proofs.YteeplponconnjaaW.PrintWords Go.Proofs.YteeplponconnjaaW.PrintLast Go.Proofs.YteeplponconnjaaW.PrintMore
attribute [local go_sem] max2_int min2_int max_two min_two max_three min_three max_four min_four
set_option linter.unusedVariables false
set_option linter.unusedSimpArgs false
mutual
def spec_l05Marks.l0 : Nat → ByteArray → List Int → List (List Bool) → Int → List (S62) → Option ((List (List Bool)))
 | 0, _, _, _, _, _ => none
 | k + 1, x1, x5, x6, x7, x1000 => if x7 < (x1.size : Int) then (if 0 ≤ (x1000.length : Int) then (if ((x1000.length : Int) : Int).toNat ≤ 281474976710656 then (spec_l05Marks.l1 k x1 x5 x6 x7 (List.replicate ((x1000.length : Int) : Int).toNat false) 0 x1000) else (none)) else (none)) else (some x6)
def spec_l05Marks.l1 : Nat → ByteArray → List Int → List (List Bool) → Int → List Bool → Int → List (S62) → Option ((List (List Bool)))
 | 0, _, _, _, _, _, _, _ => none
 | k + 1, x1, x5, x6, x7, x8, x9, x1000 => if x9 < (x1000.length : Int) then (if 0 ≤ x7 then (if x7 < (x1.size : Int) then ((spec_l05Node.f (bt x1 x7)).bind fun t167 => (spec_l05Marks.j2 k x1 x5 x6 x7 x8 x9 t167 x1000)) else (none)) else (none)) else (spec_l05Marks.j2 k x1 x5 x6 x7 x8 x9 false x1000)
def spec_l05Marks.j2 : Nat → ByteArray → List Int → List (List Bool) → Int → List Bool → Int → Bool → List (S62) → Option ((List (List Bool)))
 | 0, _, _, _, _, _, _, _, _ => none
 | k + 1, x1, x5, x6, x7, x8, x9, x38, x1000 => if x38 = true then (if 0 ≤ x9 then (if x9 < (x1000.length : Int) then (if 0 ≤ x7 then (if x7 < (x1.size : Int) then ((spec_l05Passes.f ((rd_T62 x1000 x9).f1) (bt x1 x7)).bind fun t172 => (if t172 = true then (if x9 = 0 then (if 0 < (x1000.length : Int) then (if (rd_T62 x1000 0).f0 = true then (if 0 < (x8.length : Int) then (spec_l05Marks.l1 k x1 x5 x6 x7 (x8.set (0 : Int).toNat true) (wrap64 (x9 + 1)) x1000) else (none)) else (if x7 < (x5.length : Int) then (if 0 < (x8.length : Int) then (spec_l05Marks.l1 k x1 x5 x6 x7 (x8.set (0 : Int).toNat (decide ((rd x5 x7) < 0))) (wrap64 (x9 + 1)) x1000) else (none)) else (none))) else (none)) else (if x7 < (x5.length : Int) then (spec_l05Marks.l2 k x1 x5 x6 x7 x8 x9 (rd x5 x7) x1000) else (none))) else (spec_l05Marks.l1 k x1 x5 x6 x7 x8 (wrap64 (x9 + 1)) x1000))) else (none)) else (none)) else (none)) else (none)) else (if x6.length < 5864062014805 then (spec_l05Marks.l0 k x1 x5 (x6 ++ [x8]) (wrap64 (x7 + 1)) x1000) else (none))
def spec_l05Marks.l2 : Nat → ByteArray → List Int → List (List Bool) → Int → List Bool → Int → Int → List (S62) → Option ((List (List Bool)))
 | 0, _, _, _, _, _, _, _, _ => none
 | k + 1, x1, x5, x6, x7, x8, x9, x10, x1000 => if x10 ≥ 0 then (if 0 ≤ x10 then (if x10 < (x6.length : Int) then (if 0 ≤ (wrap64 (x9 - 1)) then (if (wrap64 (x9 - 1)) < ((rd_L6 x6 x10).length : Int) then (if rdOf false (rd_L6 x6 x10) (wrap64 (x9 - 1)) = true then (if 0 ≤ x9 then (if x9 < (x8.length : Int) then ((some (x8.set (x9 : Int).toNat true : List Bool)).bind fun y180 => (if x9 < (x1000.length : Int) then (if ((rd_T62 x1000 x9).f0 = true) then (if x10 < (x5.length : Int) then (spec_l05Marks.l2 k x1 x5 x6 x7 y180 x9 (rd x5 x10) x1000) else (none)) else (spec_l05Marks.l1 k x1 x5 x6 x7 y180 (wrap64 (x9 + 1)) x1000)) else (none))) else (none)) else (none)) else (if 0 ≤ x9 then (if x9 < (x1000.length : Int) then (if ((rd_T62 x1000 x9).f0 = true) then (if x10 < (x5.length : Int) then (spec_l05Marks.l2 k x1 x5 x6 x7 x8 x9 (rd x5 x10) x1000) else (none)) else (spec_l05Marks.l1 k x1 x5 x6 x7 x8 (wrap64 (x9 + 1)) x1000)) else (none)) else (none))) else (none)) else (none)) else (none)) else (none)) else (spec_l05Marks.l1 k x1 x5 x6 x7 x8 (wrap64 (x9 + 1)) x1000)
end
def spec_l05Marks.f (k : Nat) (l0_0 : List (S62)) (a1 : ByteArray) : Option ((List (List Bool))) := (spec_l01Parents.f k a1).bind fun t158 => (spec_l05Marks.l0 k a1 t158 (([] : List (List Bool))) 0 l0_0)
def spec_l05Marks.T10 : Bool × List (List Nat × List Nat) := (true, [([], []), ([0], [0]), ([1], [1]), ([2], [2]), ([], []), ([3, 4], [3, 4]), ([5], [5]), ([6], [6]), ([], []), ([], []), ([8, 9], [8, 9]), ([7, 10], [7, 10]), ([11], [11])])
def spec_l05Marks.B10 : List Nat := [0, 1, 3, 7, 0, 31, 63, 127, 0, 0, 768, 2047, 4095]
theorem spec_l05Marks.tab10 : rtab .any (opsOf Try.f30 10) = spec_l05Marks.T10 := by kernel_rfl
theorem spec_l05Marks.bits10 : waitsOk spec_l05Marks.T10.2 spec_l05Marks.B10 = true := by kernel_rfl
def spec_l05Marks.cz0 : List Nat := [0, 1, 2, 4, 8, 9, 403, 5, 6, 407, 410]
set_option maxHeartbeats 8000000 in
set_option maxRecDepth 100000 in
theorem spec_l05Marks.calls (k : Nat) (g0_ : Nat) (A0_0 : Option Addr) (c0_0 : Nat) (l0_0 : List (S62)) (a1 : ByteArray) (r : List (List Bool)) (w : World) (hr0_0 : Kd.C k62 w A0_0 l0_0.length l0_0) (hc0_0 : l0_0.length ≤ c0_0) (hbk0_0 : w.heap[g0_]? = some (.cells #[.slice A0_0 l0_0.length c0_0] 30 (0, 0))) (h : spec_l05Marks.f k l0_0 a1 = some r) :
  Calls Try.prog 30 #[.pointer (some ⟨g0_, 0, none⟩), .string a1] w fun e w' => ∃ v0_ : Value, e = .returned (v0_) ∧ Kd.S (Kd.slice 4 Kd.bool) 61 w' w.heap.size (fun _ => True) v0_ r ∧ Below w.heap.size w w' := by
 have HR0_0 := AZ.mk hr0_0
 have HC0_0 := AZ.mk hc0_0
 clear hr0_0 hc0_0
 have BK0 := AZ.mk hbk0_0
 clear hbk0_0
 have HB := AZ.mk (Below.refl w.heap.size w)
 have H : ((spec_l01Parents.f k a1).bind fun t158 => (spec_l05Marks.l0 k a1 t158 (([] : List (List Bool))) 0 l0_0)) = some r := h
 clear h
 replace H := Option.bind_eq_some_iff.mp H
 obtain ⟨t158, A30, H⟩ := H
 replace H : (spec_l05Marks.l0 k a1 t158 (([] : List (List Bool))) 0 l0_0) = some r := H
 have A3 := AZ.mk A30
 clear A30
 obtain ⟨y161, hy161⟩ : ∃ y_ : List (List Bool), y_ = (([] : List (List Bool))) := ⟨_, rfl⟩
 replace H : (spec_l05Marks.l0 k a1 t158 y161 0 l0_0) = some r := by first | (rw [hy161]; with_reducible exact H) | (have H2_ := (Option.bind_some _ _).symm.trans H; rw [hy161]; with_reducible exact H2_) | (have H2_ := (Option.bind_some _ _).symm.trans H; with_reducible exact H2_) | with_reducible exact H | (rw [hy161]; exact H) | exact H
 have Ny161 := AZ.mk hy161
 clear hy161
 have H' := AZ.mk H
 clear H
 go_enter Try.func30, Try.ntmps30
 go_wp2_with (first | ((with_reducible refine gate_callee (f := 48) rfl ?_); refine goesL_ (some 12) rfl rfl Try.func48 (by kernel_rfl) rfl #[.string a1] rfl (by (try simp only [List.map_toArray, List.map_cons, List.map_nil]); first | done | rfl | (simp only [List.length_drop, List.length_take]; rfl)) ?_; (with_reducible refine (spec_l01Parents.calls k a1 t158 _ A3.out).mono ?_); rintro e w4 ⟨v159, rfl, ho0, hb⟩; refine ⟨_, rfl, ?_⟩; have n0_ := AZ.mk (Kd.R_lower ho0 (pZ (by repeat (first | (with_reducible first | exact HB.out | apply pA | apply pN | apply pD | refine pS ?_ GE0.out) | exact HB.out)))); have n1_ := AZ.mk (bb_ (g := g0_) (o := .cells #[.slice A0_0 l0_0.length c0_0] 30 (0, 0)) (by (with_reducible repeat (first | refine bn_ ?_ _ | refine bd_ ?_ | refine ba_ ?_ _)); exact BK0.out) hb); have n2_ := AZ.mk (pT (by repeat (first | (with_reducible first | exact HB.out | apply pA | apply pN | apply pD | refine pS ?_ GE0.out) | exact HB.out)) hb); clear BK0; clear HB; have HO160 := n0_; have BK0 := n1_; have HB := n2_; clear n0_ n1_ n2_; (try clear hb); (try clear hb2); (try clear hk); (try clear hi); (try clear ho0)) | ((with_reducible refine gate_dst (N := 13) rfl ?_); refine Kd.S_lit (Kd.slice 4 Kd.bool) _ 61 ?hg (N := 13) ?hd (xs := ([] : List (List Bool))) (inner := []) (ok := fun _ => True) (okp := fun _ => True) ?hr ?hp (fun _ hk => hk) trivial (Below.refl _ _) (Nat.le_refl _) (by simp) ?_; (case hd => rfl); (case hg => rfl); (case hr => first | (go_simp; done) | (go_simp; rfl)); (case hp => exact (Reps.none _ _)); intro v162 w5 ho6 hb hg_ hnew_; clear hg_ hnew_; (first | rw [← Ny161.out] at ho6 | (simp only [Int.reduceToNat] at ho6; rw [← Ny161.out] at ho6)); have n0_ := AZ.mk (Kd.R_below (by (with_reducible repeat (first | apply Kd.R_alloc | apply Kd.R_drewN | apply Kd.R_drew)); exact HO160.out) hb); have n1_ := AZ.mk (Kd.S_lower ho6 (pZ (by repeat (first | (with_reducible first | exact HB.out | apply pA | apply pN | apply pD | refine pS ?_ GE0.out) | exact HB.out)))); have n2_ := AZ.mk (bb_ (g := g0_) (o := .cells #[.slice A0_0 l0_0.length c0_0] 30 (0, 0)) (by (with_reducible repeat (first | refine bn_ ?_ _ | refine bd_ ?_ | refine ba_ ?_ _)); exact BK0.out) hb); have n3_ := AZ.mk (pT (by repeat (first | (with_reducible first | exact HB.out | apply pA | apply pN | apply pD | refine pS ?_ GE0.out) | exact HB.out)) hb); clear HO160; clear BK0; clear HB; have HO160 := n0_; have HO163 := n1_; have BK0 := n2_; have HB := n3_; clear n0_ n1_ n2_ n3_; clear hb ho6))
 go_loopg [6, 7] k (fun kq v6 v7 w' => ∃ (x6_1 : List (List Bool)) (x7_1 : Int), v7 = .int .i64 x7_1 ∧ AZ (spec_l05Marks.l0 kq a1 t158 x6_1 x7_1 l0_0 = some r) ∧ AZ (kq ≤ k) ∧ AZ (Kd.R (Kd.int .i64) 2 w' w.heap.size (fun _ => True) v159 t158) ∧ AZ (Kd.S (Kd.slice 4 Kd.bool) 61 w' w.heap.size (fun _ => True) v6 x6_1) ∧ AZ (w'.heap[g0_]? = some (.cells #[(.slice A0_0 l0_0.length c0_0)] 30 (0, 0))) ∧ AZ (Below w.heap.size w w'))
 case atStart => exact ⟨(y161), (0), (by first | rfl | (simp; done) | (simp [*]; done)), H', ⟨Nat.le_refl _⟩, ⟨by (with_reducible repeat (first | apply Kd.R_alloc | apply Kd.R_drewN | apply Kd.R_drew)); exact HO160.out⟩, ⟨by (with_reducible repeat (first | apply Kd.S_alloc | apply Kd.S_drewN | apply Kd.S_drew)); exact HO163.out⟩, ⟨by (with_reducible repeat (first | refine bn_ ?_ _ | refine bd_ ?_ | refine ba_ ?_ _)); exact BK0.out⟩, ⟨by repeat (first | (with_reducible first | exact HB.out | apply pA | apply pN | apply pD | refine pS ?_ GE0.out) | exact HB.out)⟩⟩
 case round =>
  clear H'
  try clear p2
  try clear c3
  try clear c4
  obtain ⟨x6_1, x7_1, rfl, HA, HK1, HO_5, HO_6, BK0, HB⟩ := hrel
  cases gk with
  | zero => exact absurd HA.out (by simp [spec_l05Marks.l0])
  | succ k1 =>
   have H := HA.out
   clear HA
   simp only [spec_l05Marks.l0] at H
   by_cases c7 : x7_1 < (a1.size : Int)
   rotate_left
   ·rw [if_neg c7] at H
    have c7b0 : decide (x7_1 < (a1.size : Int)) = false := decide_eq_false c7
    clear c7
    obtain rfl := Option.some.inj H
    go_wp2
    go_ret
    exact ⟨_, by first | rfl | (simp [errW_none, errW_some] <;> rfl) | (simp [*, errW_none, errW_some] <;> rfl), by (with_reducible repeat (first | apply Kd.S_alloc | apply Kd.S_drewN | apply Kd.S_drew)); exact HO_6.out, by repeat (first | (with_reducible first | exact HB.out | apply pA | apply pN | apply pD | refine pS ?_ GE0.out) | exact HB.out)⟩
   rw [if_pos c7] at H
   have c7b0 : decide (x7_1 < (a1.size : Int)) = true := decide_eq_true c7
   clear c7
   by_cases c8 : 0 ≤ (l0_0.length : Int)
   rotate_left
   ·rw [if_neg c8] at H
    exact absurd H (by simp)
   rw [if_pos c8] at H
   have c8b0 := eq_true c8
   have c8b1 : decide (0 ≤ (l0_0.length : Int)) = true := decide_eq_true c8
   clear c8
   by_cases c9 : ((l0_0.length : Int) : Int).toNat ≤ 281474976710656
   rotate_left
   ·rw [if_neg c9] at H
    exact absurd H (by simp)
   rw [if_pos c9] at H
   have c9b0 := eq_true c9
   have c9b1 : decide (((l0_0.length : Int) : Int).toNat ≤ 281474976710656) = true := decide_eq_true c9
   clear c9
   obtain ⟨y164, hy164⟩ : ∃ y_ : List Bool, y_ = (List.replicate ((l0_0.length : Int) : Int).toNat false) := ⟨_, rfl⟩
   replace H : (spec_l05Marks.l1 k1 a1 t158 x6_1 x7_1 y164 0 l0_0) = some r := by first | (rw [hy164]; with_reducible exact H) | (have H2_ := (Option.bind_some _ _).symm.trans H; rw [hy164]; with_reducible exact H2_) | (have H2_ := (Option.bind_some _ _).symm.trans H; with_reducible exact H2_) | with_reducible exact H | (rw [hy164]; exact H) | exact H
   have Ny164 := AZ.mk hy164
   clear hy164
   have H' := AZ.mk H
   clear H
   have hcz10_0 : wr.cell? ⟨g0_, 0, none⟩ = some (.slice A0_0 l0_0.length c0_0) := (bc BK0.out 0).trans rfl
   have hfz10_0 := bf BK0.out 0
   go_wp2_with (first | ((with_reducible refine gate_dst (N := 25) rfl ?_); refine Kd.R_make Kd.bool _ 4 rfl (N := 25) rfl 61 _ _ rfl (l0_0.length : Int) rfl rfl Try.underlying61 (.bool false) 1 info4 rfl (by decide) (by omega) false (ok := fun _ => True) (okp := fun _ => True) rfl (fun _ hk => hk) trivial (oT (by first | (with_reducible assumption) | assumption)) (Nat.le_trans (Nat.mul_le_mul_right _ (oT (by first | (with_reducible assumption) | assumption) : (l0_0.length : Int).toNat ≤ 281474976710656)) (by omega)) (Below.refl _ _) (Nat.le_refl _) ?_; intro v165 w11 ho12 hb hg_ hnew_; clear hg_ hnew_; (first | rw [← Ny164.out] at ho12 | (simp only [Int.reduceToNat] at ho12; rw [← Ny164.out] at ho12)); have n0_ := AZ.mk (Kd.R_below (by (with_reducible repeat (first | apply Kd.R_alloc | apply Kd.R_drewN | apply Kd.R_drew)); exact HO_5.out) hb); have n1_ := AZ.mk (Kd.S_elder' (by (with_reducible repeat (first | apply Kd.S_alloc | apply Kd.S_drewN | apply Kd.S_drew)); exact HO_6.out) (Kd.R_base ho12) hb); have n2_ := AZ.mk (Kd.R_lower ho12 (pZ (by repeat (first | (with_reducible first | exact HB.out | apply pA | apply pN | apply pD | refine pS ?_ GE0.out) | exact HB.out)))); have n3_ := AZ.mk (bb_ (g := g0_) (o := .cells #[.slice A0_0 l0_0.length c0_0] 30 (0, 0)) (by (with_reducible repeat (first | refine bn_ ?_ _ | refine bd_ ?_ | refine ba_ ?_ _)); exact BK0.out) hb); have n4_ := AZ.mk (pT (by repeat (first | (with_reducible first | exact HB.out | apply pA | apply pN | apply pD | refine pS ?_ GE0.out) | exact HB.out)) hb); clear HO_5; clear HO_6; clear BK0; clear HB; have HO_5 := n0_; have HO_6 := n1_; have HO166 := n2_; have BK0 := n3_; have HB := n4_; clear n0_ n1_ n2_ n3_ n4_; clear hb ho12))
   go_loopg [9] k1 (fun kq v9 w' => ∃ (x8_2 : List Bool) (x9_2 : Int), v9 = .int .i64 x9_2 ∧ AZ (spec_l05Marks.l1 kq a1 t158 x6_1 x7_1 x8_2 x9_2 l0_0 = some r) ∧ AZ (kq ≤ k1) ∧ AZ (Kd.R (Kd.int .i64) 2 w' w.heap.size (fun _ => True) v159 t158) ∧ AZ (Kd.S (Kd.slice 4 Kd.bool) 61 w' w.heap.size (fun k_ => some k_ ≠ (v165 : Value).ownBlock) u6 x6_1) ∧ AZ (Kd.R Kd.bool 4 w' w.heap.size (fun _ => True) v165 x8_2) ∧ AZ (w'.heap[g0_]? = some (.cells #[(.slice A0_0 l0_0.length c0_0)] 30 (0, 0))) ∧ AZ (Below w.heap.size w w'))
   case atStart => exact ⟨(y164), (0), (by first | rfl | (simp; done) | (simp [*]; done)), H', ⟨Nat.le_refl _⟩, ⟨by (with_reducible repeat (first | apply Kd.R_alloc | apply Kd.R_drewN | apply Kd.R_drew)); exact HO_5.out⟩, ⟨by (with_reducible repeat (first | apply Kd.S_alloc | apply Kd.S_drewN | apply Kd.S_drew)); exact Kd.S_mono HO_6.out (fun _ hk => hk.2)⟩, ⟨by (with_reducible repeat (first | apply Kd.R_alloc | apply Kd.R_drewN | apply Kd.R_drew)); exact HO166.out⟩, ⟨by (with_reducible repeat (first | refine bn_ ?_ _ | refine bd_ ?_ | refine ba_ ?_ _)); exact BK0.out⟩, ⟨by repeat (first | (with_reducible first | exact HB.out | apply pA | apply pN | apply pD | refine pS ?_ GE0.out) | exact HB.out)⟩⟩
   case round =>
    clear H'
    try clear p2
    try clear c3
    try clear c4
    try clear c7
    try clear c7b0
    try clear c8
    try clear c8b0
    try clear c8b1
    try clear c9
    try clear c9b0
    try clear c9b1
    try clear hcz10_0
    try clear hfz10_0
    try clear p2
    obtain ⟨x8_2, x9_2, rfl, HA, HK2, HO_5, HO_6, HO_8, BK0, HB⟩ := hrel
    cases gk with
    | zero => exact absurd HA.out (by simp [spec_l05Marks.l1])
    | succ k2 =>
     have H := HA.out
     clear HA
     simp only [spec_l05Marks.l1] at H
     have HC13 := AZ.mk H
     clear H
     go_upto_region 8 with (fail)
     go_cut [38] (fun v38 wc => ∃ (kq : Nat) (x38_12 : Bool), v38 = .bool x38_12 ∧ AZ (spec_l05Marks.j2 kq a1 t158 x6_1 x7_1 x8_2 x9_2 x38_12 l0_0 = some r) ∧ AZ (kq ≤ k2) ∧ AZ (Kd.R (Kd.int .i64) 2 wc w.heap.size (fun _ => True) v159 t158) ∧ AZ (Kd.S (Kd.slice 4 Kd.bool) 61 wc w.heap.size (fun k_ => some k_ ≠ (v165 : Value).ownBlock) u6 x6_1) ∧ AZ (Kd.R Kd.bool 4 wc w.heap.size (fun _ => True) v165 x8_2) ∧ AZ (wc.heap[g0_]? = some (.cells #[(.slice A0_0 l0_0.length c0_0)] 30 (0, 0))) ∧ AZ (Below w.heap.size w wc))
     case first =>
      have H := HC13.out
      clear HC13
      by_cases c14 : x9_2 < (l0_0.length : Int)
      rotate_left
      ·rw [if_neg c14] at H
       have c14b0 : decide (x9_2 < (l0_0.length : Int)) = false := decide_eq_false c14
       clear c14
       (first | rw [c14b0] | rw [c14b1] | (simp only [i64_w, i32_w]; rw [c14b0]) | skip)
       have H' := AZ.mk H
       clear H
       have hcz20_0 : wr.cell? ⟨g0_, 0, none⟩ = some (.slice A0_0 l0_0.length c0_0) := (bc BK0.out 0).trans rfl
       have hfz20_0 := bf BK0.out 0
       go_wp2
       go_meet
       case rel => exact ⟨_, (false), (by first | rfl | (simp; done) | (simp [*]; done)), H', ⟨by have := HK1.out; have := HK2.out; first | omega | exact Nat.le_refl _⟩, ⟨by (with_reducible repeat (first | apply Kd.R_alloc | apply Kd.R_drewN | apply Kd.R_drew)); exact HO_5.out⟩, ⟨by (with_reducible repeat (first | apply Kd.S_alloc | apply Kd.S_drewN | apply Kd.S_drew)); exact HO_6.out⟩, ⟨by (with_reducible repeat (first | apply Kd.R_alloc | apply Kd.R_drewN | apply Kd.R_drew)); exact HO_8.out⟩, ⟨by (with_reducible repeat (first | refine bn_ ?_ _ | refine bd_ ?_ | refine ba_ ?_ _)); exact BK0.out⟩, ⟨by repeat (first | (with_reducible first | exact HB.out | apply pA | apply pN | apply pD | refine pS ?_ GE0.out) | exact HB.out)⟩⟩
      rw [if_pos c14] at H
      have c14b0 : decide (x9_2 < (l0_0.length : Int)) = true := decide_eq_true c14
      clear c14
      (first | rw [c14b0] | rw [c14b1] | (simp only [i64_w, i32_w]; rw [c14b0]) | skip)
      by_cases c15 : 0 ≤ x7_1
      rotate_left
      ·rw [if_neg c15] at H
       exact absurd H (by simp)
      rw [if_pos c15] at H
      have c15b0 : decide (0 ≤ x7_1) = true := decide_eq_true c15
      clear c15
      by_cases c16 : x7_1 < (a1.size : Int)
      rotate_left
      ·rw [if_neg c16] at H
       exact absurd H (by simp)
      rw [if_pos c16] at H
      have c16b0 : decide (x7_1 < (a1.size : Int)) = true := decide_eq_true c16
      clear c16
      replace H := Option.bind_eq_some_iff.mp H
      obtain ⟨t167, A180, H⟩ := H
      replace H : (spec_l05Marks.j2 k2 a1 t158 x6_1 x7_1 x8_2 x9_2 t167 l0_0) = some r := H
      have A18 := AZ.mk A180
      clear A180
      have H' := AZ.mk H
      clear H
      have hcz19_0 : wr.cell? ⟨g0_, 0, none⟩ = some (.slice A0_0 l0_0.length c0_0) := (bc BK0.out 0).trans rfl
      have hfz19_0 := bf BK0.out 0
      have p17 : 0 ≤ (x7_1 : Int) := oT (by first | (with_reducible assumption) | assumption)
      have q17 : x7_1 < (a1.size : Int) := oT (by first | (with_reducible assumption) | assumption)
      have hx17 := bt_at a1 x7_1
      replace p17 := eq_true p17
      replace q17 := eq_true q17
      go_wp2_with (first | (go_at_call 49; (with_reducible refine (spec_l05Node.calls (bt a1 x7_1) t167 _ A18.out).mono ?_); rintro e w' ⟨rfl, ⟨nd, rfl⟩⟩))
      go_meet
      case rel => exact ⟨_, (t167), (by first | rfl | (simp; done) | (simp [*]; done)), H', ⟨by have := HK1.out; have := HK2.out; first | omega | exact Nat.le_refl _⟩, ⟨by (with_reducible repeat (first | apply Kd.R_alloc | apply Kd.R_drewN | apply Kd.R_drew)); exact HO_5.out⟩, ⟨by (with_reducible repeat (first | apply Kd.S_alloc | apply Kd.S_drewN | apply Kd.S_drew)); exact HO_6.out⟩, ⟨by (with_reducible repeat (first | apply Kd.R_alloc | apply Kd.R_drewN | apply Kd.R_drew)); exact HO_8.out⟩, ⟨by (with_reducible repeat (first | refine bn_ ?_ _ | refine bd_ ?_ | refine ba_ ?_ _)); exact BK0.out⟩, ⟨by repeat (first | (with_reducible first | exact HB.out | apply pA | apply pN | apply pD | refine pS ?_ GE0.out) | exact HB.out)⟩⟩
     case rest =>
      clear HC13
      try clear c1
      try clear p1
      try clear q1
      try clear hx1
      try clear p2
      try clear c3
      try clear c4
      try clear c7
      try clear c7b0
      try clear c8
      try clear c8b0
      try clear c8b1
      try clear c9
      try clear c9b0
      try clear c9b1
      try clear c14
      try clear c14b0
      try clear c14b1
      try clear c15
      try clear c15b0
      try clear c16
      try clear c16b0
      try clear p17
      try clear q17
      try clear hx17
      try clear hcz10_0
      try clear hcz19_0
      try clear hcz20_0
      try clear hfz10_0
      try clear hfz19_0
      try clear hfz20_0
      try clear p17
      try clear p2
      try clear q17
      obtain ⟨kq, x38_12, rfl, HA, HJ12, HO_5, HO_6, HO_8, BK0, HB⟩ := hcut
      cases kq with
      | zero => exact absurd HA.out (by simp [spec_l05Marks.j2])
      | succ kj12 =>
       have H := HA.out
       clear HA
       simp only [spec_l05Marks.j2] at H
       by_cases c21 : x38_12 = true
       rotate_left
       ·replace c21 := Bool.eq_false_iff.mpr c21
        subst c21
        have H1 : (if x6_1.length < 5864062014805 then (spec_l05Marks.l0 kj12 a1 t158 (x6_1 ++ [x8_2]) (wrap64 (x7_1 + 1)) l0_0) else (none)) = some r := by rw [if_neg (show ¬ (false = true) by decide)] at H; exact H
        clear H
        have H := H1
        clear H1
        by_cases c87 : x6_1.length < 5864062014805
        rotate_left
        ·rw [if_neg c87] at H
         exact absurd H (by simp)
        rw [if_pos c87] at H
        have LMc87 := AZ.mk c87
        clear c87
        obtain ⟨y168, hy168⟩ : ∃ y_ : List (List Bool), y_ = (x6_1 ++ [x8_2]) := ⟨_, rfl⟩
        replace H : (spec_l05Marks.l0 kj12 a1 t158 y168 (wrap64 (x7_1 + 1)) l0_0) = some r := by first | (rw [hy168]; with_reducible exact H) | (have H2_ := (Option.bind_some _ _).symm.trans H; rw [hy168]; with_reducible exact H2_) | (have H2_ := (Option.bind_some _ _).symm.trans H; with_reducible exact H2_) | with_reducible exact H | (rw [hy168]; exact H) | exact H
        have Ny168 := AZ.mk hy168
        clear hy168
        have H' := AZ.mk H
        clear H
        obtain ⟨Ao89, co89, eo89⟩ := Kd.R_slice HO_8.out
        subst eo89
        go_wp2_with (first | ((with_reducible refine gate_builtin (b := .append) (xs := #[.tmp 102, .tmp 104]) rfl ?_); at_builtin; refine Kd.S_append (Kd.slice 4 Kd.bool) (w0 := w) w.heap.size rfl (.tmp 102) (.tmp 104) 59 61 (.slice none 0 0) 24 rfl Try.underlying59 info61 rfl (by decide) (by omega) u6 x6_1 x8_2 [.slice Ao89 x8_2.length co89] (fun _ => True) (fun k_ => some k_ = (.slice Ao89 x8_2.length co89 : Value).ownBlock) rfl rfl ?aP (fun k_ hk_ => ((Kd.R_mono (ok' := fun k_ => ((fun _ => True)) k_ ∧ some k_ ≠ (u6 : Value).ownBlock) (Kd.R_apart' (HO_8.out) (Kd.S_typed HO_6.out) (by decide)) (fun k_ hk => ⟨trivial, hk.2⟩))).1 k_ hk_.symm) ?aF ?aO ?aB ?aS ?aL ?_; (case aP => exact Kd.M_row (Kd.R_mono (Kd.R_tight rfl (Kd.R_mono (ok' := fun k_ => ((fun _ => True)) k_ ∧ some k_ ≠ (u6 : Value).ownBlock) (Kd.R_apart' (HO_8.out) (Kd.S_typed HO_6.out) (by decide)) (fun k_ hk => ⟨trivial, hk.2⟩))) (fun _ h_ => h_))); (case aB => exact (by repeat (first | (with_reducible first | exact HB.out | apply pA | apply pN | apply pD | refine pS ?_ GE0.out) | exact HB.out))); (case aF => exact (fun _ _ => trivial)); (case aO => exact (by (with_reducible repeat (first | apply Kd.S_alloc | apply Kd.S_drewN | apply Kd.S_drew)); exact Kd.S_mono HO_6.out (fun k_ hk => ⟨trivial, fun e_ => hk e_⟩))); (case aS => exact (pZ (by repeat (first | (with_reducible first | exact HB.out | apply pA | apply pN | apply pD | refine pS ?_ GE0.out) | exact HB.out)))); (case aL => have := LMc87.out; omega); intro v169 w88 ho hb hg hat; rw [← Ny168.out] at ho; have n0_ := AZ.mk (Kd.R_over' (by (with_reducible repeat (first | apply Kd.R_alloc | apply Kd.R_drewN | apply Kd.R_drew)); exact HO_5.out) (Kd.S_typed (by (with_reducible repeat (first | apply Kd.S_alloc | apply Kd.S_drewN | apply Kd.S_drew)); exact HO_6.out)) (by decide) hg); have n1_ := AZ.mk (blk_grown (g := g0_) (o := .cells #[.slice A0_0 l0_0.length c0_0] 30 (0, 0)) (by (with_reducible repeat (first | refine bn_ ?_ _ | refine bd_ ?_ | refine ba_ ?_ _)); exact BK0.out) hg (Kd.S_ne HO_6.out BK0.out (by decide))); have n2_ := AZ.mk (hb); have n3_ := AZ.mk (ho); clear HO_5; clear BK0; clear HB; clear HO_6; clear HO_8; have HO_5 := n0_; have BK0 := n1_; have HB := n2_; have HO170 := n3_; clear n0_ n1_ n2_ n3_; clear ho hb hg hat))
        go_roundg kj12
        case measure => have := HK1.out; have := HK2.out; have := HJ12.out; omega
        case rel => exact ⟨(y168), (wrap64 (x7_1 + 1)), (by first | rfl | (simp; done) | (simp [*]; done)), H', ⟨by have := HK1.out; have := HK2.out; have := HJ12.out; omega⟩, ⟨by (with_reducible repeat (first | apply Kd.R_alloc | apply Kd.R_drewN | apply Kd.R_drew)); exact HO_5.out⟩, ⟨by (with_reducible repeat (first | apply Kd.S_alloc | apply Kd.S_drewN | apply Kd.S_drew)); exact HO170.out⟩, ⟨by (with_reducible repeat (first | refine bn_ ?_ _ | refine bd_ ?_ | refine ba_ ?_ _)); exact BK0.out⟩, ⟨by repeat (first | (with_reducible first | exact HB.out | apply pA | apply pN | apply pD | refine pS ?_ GE0.out) | exact HB.out)⟩⟩
       subst c21
       have H1 : (if 0 ≤ x9_2 then (if x9_2 < (l0_0.length : Int) then (if 0 ≤ x7_1 then (if x7_1 < (a1.size : Int) then ((spec_l05Passes.f ((rd_T62 l0_0 x9_2).f1) (bt a1 x7_1)).bind fun t172 => (if t172 = true then (if x9_2 = 0 then (if 0 < (l0_0.length : Int) then (if (rd_T62 l0_0 0).f0 = true then (if 0 < (x8_2.length : Int) then (spec_l05Marks.l1 kj12 a1 t158 x6_1 x7_1 (x8_2.set (0 : Int).toNat true) (wrap64 (x9_2 + 1)) l0_0) else (none)) else (if x7_1 < (t158.length : Int) then (if 0 < (x8_2.length : Int) then (spec_l05Marks.l1 kj12 a1 t158 x6_1 x7_1 (x8_2.set (0 : Int).toNat (decide ((rd t158 x7_1) < 0))) (wrap64 (x9_2 + 1)) l0_0) else (none)) else (none))) else (none)) else (if x7_1 < (t158.length : Int) then (spec_l05Marks.l2 kj12 a1 t158 x6_1 x7_1 x8_2 x9_2 (rd t158 x7_1) l0_0) else (none))) else (spec_l05Marks.l1 kj12 a1 t158 x6_1 x7_1 x8_2 (wrap64 (x9_2 + 1)) l0_0))) else (none)) else (none)) else (none)) else (none)) = some r := by rw [if_pos rfl] at H; exact H
       clear H
       have H := H1
       clear H1
       by_cases c22 : 0 ≤ x9_2
       rotate_left
       ·rw [if_neg c22] at H
        exact absurd H (by simp)
       rw [if_pos c22] at H
       have c22b0 : decide (0 ≤ x9_2) = true := decide_eq_true c22
       clear c22
       by_cases c23 : x9_2 < (l0_0.length : Int)
       rotate_left
       ·rw [if_neg c23] at H
        exact absurd H (by simp)
       rw [if_pos c23] at H
       have c23b0 : decide (x9_2 < (l0_0.length : Int)) = true := decide_eq_true c23
       clear c23
       by_cases c24 : 0 ≤ x7_1
       rotate_left
       ·rw [if_neg c24] at H
        exact absurd H (by simp)
       rw [if_pos c24] at H
       have c24b0 : decide (0 ≤ x7_1) = true := decide_eq_true c24
       clear c24
       by_cases c25 : x7_1 < (a1.size : Int)
       rotate_left
       ·rw [if_neg c25] at H
        exact absurd H (by simp)
       rw [if_pos c25] at H
       have c25b0 : decide (x7_1 < (a1.size : Int)) = true := decide_eq_true c25
       clear c25
       replace H := Option.bind_eq_some_iff.mp H
       obtain ⟨t172, A270, H⟩ := H
       replace H : (if t172 = true then (if x9_2 = 0 then (if 0 < (l0_0.length : Int) then (if (rd_T62 l0_0 0).f0 = true then (if 0 < (x8_2.length : Int) then (spec_l05Marks.l1 kj12 a1 t158 x6_1 x7_1 (x8_2.set (0 : Int).toNat true) (wrap64 (x9_2 + 1)) l0_0) else (none)) else (if x7_1 < (t158.length : Int) then (if 0 < (x8_2.length : Int) then (spec_l05Marks.l1 kj12 a1 t158 x6_1 x7_1 (x8_2.set (0 : Int).toNat (decide ((rd t158 x7_1) < 0))) (wrap64 (x9_2 + 1)) l0_0) else (none)) else (none))) else (none)) else (if x7_1 < (t158.length : Int) then (spec_l05Marks.l2 kj12 a1 t158 x6_1 x7_1 x8_2 x9_2 (rd t158 x7_1) l0_0) else (none))) else (spec_l05Marks.l1 kj12 a1 t158 x6_1 x7_1 x8_2 (wrap64 (x9_2 + 1)) l0_0)) = some r := H
       have A27 := AZ.mk A270
       clear A270
       by_cases c28 : t172 = true
       rotate_left
       ·replace c28 := Bool.eq_false_iff.mpr c28
        subst c28
        have H1 : (spec_l05Marks.l1 kj12 a1 t158 x6_1 x7_1 x8_2 (wrap64 (x9_2 + 1)) l0_0) = some r := by rw [if_neg (show ¬ (false = true) by decide)] at H; exact H
        clear H
        have H := H1
        clear H1
        have H' := AZ.mk H
        clear H
        try go_wp2
        have n0_ := AZ.mk (Kd.R_drew HO_5.out)
        have n1_ := AZ.mk (Kd.S_drew HO_6.out)
        have n2_ := AZ.mk (Kd.R_drew HO_8.out)
        have n3_ := AZ.mk (bd_ BK0.out)
        have n4_ := AZ.mk (pD HB.out)
        clear HO_5
        clear HO_6
        clear HO_8
        clear BK0
        clear HB
        have HO_5 := n0_
        have HO_6 := n1_
        have HO_8 := n2_
        have BK0 := n3_
        have HB := n4_
        clear n0_ n1_ n2_ n3_ n4_
        have p171 : 0 ≤ (x9_2 : Int) := oT (by first | (with_reducible assumption) | assumption)
        have q171 : x9_2 < (l0_0.length : Int) := oT (by first | (with_reducible assumption) | assumption)
        obtain ⟨ad171, e171, hx171_0, hx171_1⟩ := at_T62 HR0_0.out x9_2 p171 q171
        have hw171_1 := hx171_1
        have hw171_0 := hx171_0
        cases e171
        replace hx171_0 := (HB.out.cell (World.block_lt_of_cell? w _ hx171_0)).trans hx171_0
        replace hx171_1 := (HB.out.cell (World.block_lt_of_cell? w _ hx171_1)).trans hx171_1
        replace p171 := eq_true p171
        replace q171 := eq_true q171
        have p26 : 0 ≤ (x7_1 : Int) := oT (by first | (with_reducible assumption) | assumption)
        have q26 : x7_1 < (a1.size : Int) := oT (by first | (with_reducible assumption) | assumption)
        have hx26 := bt_at a1 x7_1
        replace p26 := eq_true p26
        replace q26 := eq_true q26
        refine start_ (n := 13) (S := fun w' => w'.cell? ⟨g0_, 0, none⟩ = some (.slice (some ad171) l0_0.length c0_0) ∧ w'.cell? (ad171.add ((x9_2).toNat * 2)) = some (.bool ((rd_T62 l0_0 x9_2).f0)) ∧ w'.cell? ⟨(ad171.add ((x9_2).toNat * 2)).block, (ad171.add ((x9_2).toNat * 2)).off + 1, none⟩ = some (.string ((rd_T62 l0_0 x9_2).f1))) (ds := []) (bz 13 0) (by kernel_rfl) rfl rfl ⟨(bc BK0.out 0).trans rfl, ((HB.out.cell (World.block_lt_of_cell? w _ hw171_0)).trans hw171_0), ((HB.out.cell (World.block_lt_of_cell? w _ hw171_1)).trans hw171_1)⟩ (fun hHeld => ?_); refine with_tabW spec_l05Marks.tab10 spec_l05Marks.bits10 (fun HT_ HW_ => ?_)
        generalize wc.drew = w85 at HO_5 HO_6 HO_8 BK0 HB hx171_0 hx171_1 hHeld ⊢
        iterate 11 (first | (refine pz_ HT_ spec_l05Marks.cz0 rfl rfl rfl (v := ?_) (a' := ?_) (by kernel_rfl) (fun _ _ _ h => h) (Or.inl ⟨by rfl, ?_⟩) ?_ ?_; rotate_left; (intro w'; go_simp; with_reducible rfl); rotate_left; (simp only [Act.put, sA, sB, sC, i64_w, i32_w]; rfl)) | (refine tz_ HT_ HW_ spec_l05Marks.cz0 rfl rfl rfl (v := ?_) (a' := ?_) (by kernel_rfl) (fun _ _ _ h => h) (Or.inl ⟨by rfl, ?_⟩) hHeld ?_ ?_; rotate_left; (rintro w' ⟨s0, s1, s2⟩; go_simp; with_reducible rfl); rotate_left; (simp only [Act.put, sA, sB, sC, i64_w, i32_w]; rfl)))
        refine one_ (i := 11) (N := some 52) (bz 13 4095) rfl rfl (one_of HT_.out (by kernel_rfl)) (by decide) (fun K hK => ?_)
        refine goes_ Try.func50 (by kernel_rfl) rfl #[.string ((rd_T62 l0_0 x9_2).f1), .int .u8 (bt a1 x7_1)] (by rfl) rfl rfl (by (try simp only [List.map_toArray, List.map_cons, List.map_nil]); first | done | rfl | (simp only [List.length_drop, List.length_take]; rfl)) ?_
        with_reducible refine (spec_l05Passes.calls ((rd_T62 l0_0 x9_2).f1) (bt a1 x7_1) false _ A27.out).mono ?_
        rintro e w86 ⟨rfl, hb⟩
        refine ⟨_, rfl, ?_⟩
        have n0_ := AZ.mk (Kd.R_below (by (with_reducible repeat (first | apply Kd.R_alloc | apply Kd.R_drewN | apply Kd.R_drew)); exact HO_5.out) hb)
        have n1_ := AZ.mk (Kd.S_below (by (with_reducible repeat (first | apply Kd.S_alloc | apply Kd.S_drewN | apply Kd.S_drew)); exact HO_6.out) hb)
        have n2_ := AZ.mk (Kd.R_below (by (with_reducible repeat (first | apply Kd.R_alloc | apply Kd.R_drewN | apply Kd.R_drew)); exact HO_8.out) hb)
        have n3_ := AZ.mk (bb_ (g := g0_) (o := .cells #[.slice (some ad171) l0_0.length c0_0] 30 (0, 0)) (by (with_reducible repeat (first | refine bn_ ?_ _ | refine bd_ ?_ | refine ba_ ?_ _)); exact BK0.out) hb)
        have n4_ := AZ.mk (pT (by repeat (first | (with_reducible first | exact HB.out | apply pA | apply pN | apply pD | refine pS ?_ GE0.out) | exact HB.out)) hb)
        clear HO_5
        clear HO_6
        clear HO_8
        clear BK0
        clear HB
        have HO_5 := n0_
        have HO_6 := n1_
        have HO_8 := n2_
        have BK0 := n3_
        have HB := n4_
        clear n0_ n1_ n2_ n3_ n4_
        (try clear hb)
        (try clear hb2)
        (try clear hk)
        (try clear hi)
        refine hK.out _ _ ⟨(bc BK0.out 0).trans rfl, ((HB.out.cell (World.block_lt_of_cell? w _ hw171_0)).trans hw171_0), ((HB.out.cell (World.block_lt_of_cell? w _ hw171_1)).trans hw171_1)⟩ (fun hHeld => ?_)
        clear hK K
        refine norm_ (a' := ?_) ?_ ?_
        rotate_left
        ·show Act.put _ (some 52) _ = _
         simp only [Act.put, sA, sB, sC, i64_w, i32_w]
         rfl
        refine pure_ (i := 12) (N := some 53) (v := ?_) (a' := ?_) (bz 13 8191) rfl rfl (any_of HT_.out (by kernel_rfl)) (fun _ _ _ h => h) (Or.inl ⟨by rfl, ?_⟩) ?_ ?_
        rotate_left
        ·intro w'
         go_simp
         with_reducible rfl
        rotate_left
        ·simp only [Act.put, sA, sB, sC, i64_w, i32_w]
         rfl
        refine done_ (done_of HT_.out (by kernel_rfl)) ?_
        try go_wp2
        go_roundg kj12
        case measure => have := HK1.out; have := HK2.out; have := HJ12.out; omega
        case rel => exact ⟨(x8_2), (wrap64 (x9_2 + 1)), (by first | rfl | (simp; done) | (simp [*]; done)), H', ⟨by have := HK1.out; have := HK2.out; have := HJ12.out; omega⟩, ⟨by (with_reducible repeat (first | apply Kd.R_alloc | apply Kd.R_drewN | apply Kd.R_drew)); exact HO_5.out⟩, ⟨by (with_reducible repeat (first | apply Kd.S_alloc | apply Kd.S_drewN | apply Kd.S_drew)); exact HO_6.out⟩, ⟨by (with_reducible repeat (first | apply Kd.R_alloc | apply Kd.R_drewN | apply Kd.R_drew)); exact HO_8.out⟩, ⟨by (with_reducible repeat (first | refine bn_ ?_ _ | refine bd_ ?_ | refine ba_ ?_ _)); exact BK0.out⟩, ⟨by repeat (first | (with_reducible first | exact HB.out | apply pA | apply pN | apply pD | refine pS ?_ GE0.out) | exact HB.out)⟩⟩
       subst c28
       have H1 : (if x9_2 = 0 then (if 0 < (l0_0.length : Int) then (if (rd_T62 l0_0 0).f0 = true then (if 0 < (x8_2.length : Int) then (spec_l05Marks.l1 kj12 a1 t158 x6_1 x7_1 (x8_2.set (0 : Int).toNat true) (wrap64 (x9_2 + 1)) l0_0) else (none)) else (if x7_1 < (t158.length : Int) then (if 0 < (x8_2.length : Int) then (spec_l05Marks.l1 kj12 a1 t158 x6_1 x7_1 (x8_2.set (0 : Int).toNat (decide ((rd t158 x7_1) < 0))) (wrap64 (x9_2 + 1)) l0_0) else (none)) else (none))) else (none)) else (if x7_1 < (t158.length : Int) then (spec_l05Marks.l2 kj12 a1 t158 x6_1 x7_1 x8_2 x9_2 (rd t158 x7_1) l0_0) else (none))) = some r := by rw [if_pos rfl] at H; exact H
       clear H
       have H := H1
       clear H1
       by_cases c29 : x9_2 = 0
       ·rw [if_pos c29] at H
        have c29b0 : (x9_2 == 0) = true := beq_iff_eq.mpr c29
        have c29b1 : (x9_2 != 0) = false := bne_eq_false_iff_eq.mpr c29
        clear c29
        by_cases c30 : 0 < (l0_0.length : Int)
        rotate_left
        ·rw [if_neg c30] at H
         exact absurd H (by simp)
        rw [if_pos c30] at H
        have c30b0 : decide (0 < (l0_0.length : Int)) = true := decide_eq_true c30
        have c30b1 : decide (0 < l0_0.length) = true := decide_eq_true (by omega)
        clear c30
        obtain ⟨bq31, hbq31⟩ : ∃ b_ : Bool, b_ = ((rd_T62 l0_0 0).f0) := ⟨_, rfl⟩
        replace H : (if bq31 = true then (if 0 < (x8_2.length : Int) then (spec_l05Marks.l1 kj12 a1 t158 x6_1 x7_1 (x8_2.set (0 : Int).toNat true) (wrap64 (x9_2 + 1)) l0_0) else (none)) else (if x7_1 < (t158.length : Int) then (if 0 < (x8_2.length : Int) then (spec_l05Marks.l1 kj12 a1 t158 x6_1 x7_1 (x8_2.set (0 : Int).toNat (decide ((rd t158 x7_1) < 0))) (wrap64 (x9_2 + 1)) l0_0) else (none)) else (none))) = some r := by rw [← hbq31] at H; exact H
        have Nbq31 := AZ.mk hbq31
        clear hbq31
        by_cases c32 : bq31 = true
        ·subst c32
         have H1 : (if 0 < (x8_2.length : Int) then (spec_l05Marks.l1 kj12 a1 t158 x6_1 x7_1 (x8_2.set (0 : Int).toNat true) (wrap64 (x9_2 + 1)) l0_0) else (none)) = some r := by rw [if_pos rfl] at H; exact H
         clear H
         have H := H1
         clear H1
         by_cases c33 : 0 < (x8_2.length : Int)
         rotate_left
         ·rw [if_neg c33] at H
          exact absurd H (by simp)
         rw [if_pos c33] at H
         have c33b0 : decide (0 < (x8_2.length : Int)) = true := decide_eq_true c33
         have c33b1 : decide (0 < x8_2.length) = true := decide_eq_true (by omega)
         clear c33
         obtain ⟨y174, hy174⟩ : ∃ y_ : List Bool, y_ = (x8_2.set (0 : Int).toNat true) := ⟨_, rfl⟩
         replace H : (spec_l05Marks.l1 kj12 a1 t158 x6_1 x7_1 y174 (wrap64 (x9_2 + 1)) l0_0) = some r := by first | (rw [hy174]; with_reducible exact H) | (have H2_ := (Option.bind_some _ _).symm.trans H; rw [hy174]; with_reducible exact H2_) | (have H2_ := (Option.bind_some _ _).symm.trans H; with_reducible exact H2_) | with_reducible exact H | (rw [hy174]; exact H) | exact H
         have Ny174 := AZ.mk hy174
         clear hy174
         have H' := AZ.mk H
         clear H
         try go_wp2
         have n0_ := AZ.mk (Kd.R_drew HO_5.out)
         have n1_ := AZ.mk (Kd.S_drew HO_6.out)
         have n2_ := AZ.mk (Kd.R_drew HO_8.out)
         have n3_ := AZ.mk (bd_ BK0.out)
         have n4_ := AZ.mk (pD HB.out)
         clear HO_5
         clear HO_6
         clear HO_8
         clear BK0
         clear HB
         have HO_5 := n0_
         have HO_6 := n1_
         have HO_8 := n2_
         have BK0 := n3_
         have HB := n4_
         clear n0_ n1_ n2_ n3_ n4_
         have p171 : 0 ≤ (x9_2 : Int) := oT (by first | (with_reducible assumption) | assumption)
         have q171 : x9_2 < (l0_0.length : Int) := oT (by first | (with_reducible assumption) | assumption)
         obtain ⟨ad171, e171, hx171_0, hx171_1⟩ := at_T62 HR0_0.out x9_2 p171 q171
         have hw171_1 := hx171_1
         have hw171_0 := hx171_0
         (try rw [← Nbq31.out] at hx171_0)
         cases e171
         replace hx171_0 := (HB.out.cell (World.block_lt_of_cell? w _ hx171_0)).trans hx171_0
         replace hx171_1 := (HB.out.cell (World.block_lt_of_cell? w _ hx171_1)).trans hx171_1
         replace p171 := eq_true p171
         replace q171 := eq_true q171
         have p26 : 0 ≤ (x7_1 : Int) := oT (by first | (with_reducible assumption) | assumption)
         have q26 : x7_1 < (a1.size : Int) := oT (by first | (with_reducible assumption) | assumption)
         have hx26 := bt_at a1 x7_1
         replace p26 := eq_true p26
         replace q26 := eq_true q26
         refine start_ (n := 13) (S := fun w' => w'.cell? ⟨g0_, 0, none⟩ = some (.slice (some ad171) l0_0.length c0_0) ∧ w'.cell? (ad171.add ((x9_2).toNat * 2)) = some (.bool ((rd_T62 l0_0 x9_2).f0)) ∧ w'.cell? ⟨(ad171.add ((x9_2).toNat * 2)).block, (ad171.add ((x9_2).toNat * 2)).off + 1, none⟩ = some (.string ((rd_T62 l0_0 x9_2).f1))) (ds := []) (bz 13 0) (by kernel_rfl) rfl rfl ⟨(bc BK0.out 0).trans rfl, ((HB.out.cell (World.block_lt_of_cell? w _ hw171_0)).trans hw171_0), ((HB.out.cell (World.block_lt_of_cell? w _ hw171_1)).trans hw171_1)⟩ (fun hHeld => ?_); refine with_tabW spec_l05Marks.tab10 spec_l05Marks.bits10 (fun HT_ HW_ => ?_)
         generalize wc.drew = w35 at HO_5 HO_6 HO_8 BK0 HB hx171_0 hx171_1 hHeld ⊢
         iterate 11 (first | (refine pz_ HT_ spec_l05Marks.cz0 rfl rfl rfl (v := ?_) (a' := ?_) (by kernel_rfl) (fun _ _ _ h => h) (Or.inl ⟨by rfl, ?_⟩) ?_ ?_; rotate_left; (intro w'; go_simp; with_reducible rfl); rotate_left; (simp only [Act.put, sA, sB, sC, i64_w, i32_w]; rfl)) | (refine tz_ HT_ HW_ spec_l05Marks.cz0 rfl rfl rfl (v := ?_) (a' := ?_) (by kernel_rfl) (fun _ _ _ h => h) (Or.inl ⟨by rfl, ?_⟩) hHeld ?_ ?_; rotate_left; (rintro w' ⟨s0, s1, s2⟩; go_simp; with_reducible rfl); rotate_left; (simp only [Act.put, sA, sB, sC, i64_w, i32_w]; rfl)))
         refine one_ (i := 11) (N := some 52) (bz 13 4095) rfl rfl (one_of HT_.out (by kernel_rfl)) (by decide) (fun K hK => ?_)
         refine goes_ Try.func50 (by kernel_rfl) rfl #[.string ((rd_T62 l0_0 x9_2).f1), .int .u8 (bt a1 x7_1)] (by rfl) rfl rfl (by (try simp only [List.map_toArray, List.map_cons, List.map_nil]); first | done | rfl | (simp only [List.length_drop, List.length_take]; rfl)) ?_
         with_reducible refine (spec_l05Passes.calls ((rd_T62 l0_0 x9_2).f1) (bt a1 x7_1) true _ A27.out).mono ?_
         rintro e w36 ⟨rfl, hb⟩
         refine ⟨_, rfl, ?_⟩
         have n0_ := AZ.mk (Kd.R_below (by (with_reducible repeat (first | apply Kd.R_alloc | apply Kd.R_drewN | apply Kd.R_drew)); exact HO_5.out) hb)
         have n1_ := AZ.mk (Kd.S_below (by (with_reducible repeat (first | apply Kd.S_alloc | apply Kd.S_drewN | apply Kd.S_drew)); exact HO_6.out) hb)
         have n2_ := AZ.mk (Kd.R_below (by (with_reducible repeat (first | apply Kd.R_alloc | apply Kd.R_drewN | apply Kd.R_drew)); exact HO_8.out) hb)
         have n3_ := AZ.mk (bb_ (g := g0_) (o := .cells #[.slice (some ad171) l0_0.length c0_0] 30 (0, 0)) (by (with_reducible repeat (first | refine bn_ ?_ _ | refine bd_ ?_ | refine ba_ ?_ _)); exact BK0.out) hb)
         have n4_ := AZ.mk (pT (by repeat (first | (with_reducible first | exact HB.out | apply pA | apply pN | apply pD | refine pS ?_ GE0.out) | exact HB.out)) hb)
         clear HO_5
         clear HO_6
         clear HO_8
         clear BK0
         clear HB
         have HO_5 := n0_
         have HO_6 := n1_
         have HO_8 := n2_
         have BK0 := n3_
         have HB := n4_
         clear n0_ n1_ n2_ n3_ n4_
         (try clear hb)
         (try clear hb2)
         (try clear hk)
         (try clear hi)
         refine hK.out _ _ ⟨(bc BK0.out 0).trans rfl, ((HB.out.cell (World.block_lt_of_cell? w _ hw171_0)).trans hw171_0), ((HB.out.cell (World.block_lt_of_cell? w _ hw171_1)).trans hw171_1)⟩ (fun hHeld => ?_)
         clear hK K
         refine norm_ (a' := ?_) ?_ ?_
         rotate_left
         ·show Act.put _ (some 52) _ = _
          simp only [Act.put, sA, sB, sC, i64_w, i32_w]
          rfl
         refine pure_ (i := 12) (N := some 53) (v := ?_) (a' := ?_) (bz 13 8191) rfl rfl (any_of HT_.out (by kernel_rfl)) (fun _ _ _ h => h) (Or.inl ⟨by rfl, ?_⟩) ?_ ?_
         rotate_left
         ·intro w'
          go_simp
          with_reducible rfl
         rotate_left
         ·simp only [Act.put, sA, sB, sC, i64_w, i32_w]
          rfl
         refine done_ (done_of HT_.out (by kernel_rfl)) ?_
         have hcz37_0 : w36.cell? ⟨g0_, 0, none⟩ = some (.slice (some ad171) l0_0.length c0_0) := (bc BK0.out 0).trans rfl
         have hfz37_0 := bf BK0.out 0
         have p173 : 0 ≤ (0 : Int) := (by omega)
         have q173 : 0 < (l0_0.length : Int) := oT (by first | (with_reducible assumption) | assumption)
         obtain ⟨ad173, e173, hx173_0, hx173_1⟩ := at_T62 HR0_0.out 0 p173 q173
         (try rw [← Nbq31.out] at hx173_0)
         obtain rfl : ad171 = ad173 := (by injection e173)
         have qi173 : (0 < l0_0.length) = True := eq_true (by omega)
         (try rw [show ((0 : Int)).toNat = 0 from rfl] at hx173_0)
         (try rw [show 0 * 2 = 0 from rfl] at hx173_0)
         (try rw [Addr.add_zero'] at hx173_0)
         (try rw [show ((0 : Int)).toNat = 0 from rfl] at hx173_1)
         (try rw [show 0 * 2 = 0 from rfl] at hx173_1)
         (try rw [Addr.add_zero'] at hx173_1)
         replace hx173_0 := (HB.out.cell (World.block_lt_of_cell? w _ hx173_0)).trans hx173_0
         replace hx173_1 := (HB.out.cell (World.block_lt_of_cell? w _ hx173_1)).trans hx173_1
         replace p173 := eq_true p173
         replace q173 := eq_true q173
         have p34 : 0 ≤ (0 : Int) := (by omega)
         have q34 : (0 : Int) < ((x8_2.length : Int) : Int) := oT (by first | (with_reducible assumption) | assumption)
         have qi34 : (0 < x8_2.length) = True := eq_true (by omega)
         obtain ⟨go34, co34, eo34, gb34, gl34, cl34, HG34⟩ := Kd.R_form HO_8.out (by omega)
         (first | cases eo34 | (injection eo34 with ea_ en_ ec_; (first | subst ea_ | (injection ea_ with ea_; subst ea_)); subst ec_; clear en_))
         have GB34 := AZ.mk gb34
         have GG34 := AZ.mk HG34
         clear gb34 gl34 HG34
         obtain ⟨hx34_0, hf34_0⟩ := Kd.R_celln false HO_8.out (0 : Int) p34 q34
         (try rw [show ((0 : Int)).toNat = 0 from rfl] at hx34_0)
         (try simp only [Nat.reduceMul, Nat.zero_mul, Nat.zero_add, Nat.reduceAdd] at hx34_0)
         (try rw [show ((0 : Int)).toNat = 0 from rfl] at hf34_0)
         (try simp only [Nat.reduceMul, Nat.zero_mul, Nat.zero_add, Nat.reduceAdd] at hf34_0)
         replace p34 := eq_true p34
         replace q34 := eq_true q34
         obtain ⟨hy38_, hz38_⟩ := Kd.R_celln false HO_8.out (0 : Int) (by omega) (oT (by first | (with_reducible assumption) | assumption))
         (try simp only [Int.reduceToNat, Int.toNat_zero, Int.toNat_ofNat, Nat.reduceMul, Nat.zero_mul, Nat.zero_add] at hy38_ hz38_)
         (try rw [show ((0 : Int)).toNat = 0 from rfl] at hy38_)
         (try rw [show ((0 : Int)).toNat = 0 from rfl] at hz38_)
         have HP38 := Kd.R_putg HO_8.out (0 : Int) true
         try go_wp2_with (first | ((with_reducible refine gate_store (t := 4) (p := 71) rfl ?_); refine store_event (t := 4) (p := 71) (v := ?vo_w39) (w1 := (w36.setCell ⟨go34, (0 : Int).toNat, none⟩ (.bool true))) ?hg ?ho ?hn ?hr ?_; (case ho => rfl); (case hg => rfl); (case hn => rfl); (case hr => first | (go_simp; done) | (go_simp; rfl)); intro w39 hw; have hg : w36.grownBy w39 (some go34) := (by rw [hw]; exact HP38.2); have hp_ : Kd.R Kd.bool 4 w39 w.heap.size (fun _ => True) (.slice (some ⟨go34, 0, none⟩) x8_2.length co34) y174 := (by rw [hw, Ny174.out]; exact HP38.1); clear HP38; have n0_ := AZ.mk (Kd.R_over' (v := (.slice (some ⟨go34, 0, none⟩) x8_2.length co34)) (by (with_reducible repeat (first | apply Kd.R_alloc | apply Kd.R_drewN | apply Kd.R_drew)); exact HO_5.out) (Kd.R_typed HO_8.out) (by decide) hg); have n1_ := AZ.mk (Kd.S_after (v := (.slice (some ⟨go34, 0, none⟩) x8_2.length co34)) (v1 := (.slice (some ⟨go34, 0, none⟩) x8_2.length co34)) (ok := (fun _ => True)) (by (with_reducible repeat (first | apply Kd.S_alloc | apply Kd.S_drewN | apply Kd.S_drew)); exact Kd.S_mono HO_6.out (fun _ hk => ⟨trivial, hk⟩)) hg (.inl rfl)); have n2_ := AZ.mk (hp_); have n3_ := AZ.mk (blk_grown (g := g0_) (o := .cells #[.slice (some ad171) l0_0.length c0_0] 30 (0, 0)) (by (with_reducible repeat (first | refine bn_ ?_ _ | refine bd_ ?_ | refine ba_ ?_ _)); exact BK0.out) hg (Kd.R_ne HO_8.out BK0.out (by decide))); have n4_ := AZ.mk ((by rw [hw]; exact pS (HB.out) GB34.out : Below w.heap.size w w39)); clear HO_5; clear HO_6; clear HO_8; clear BK0; clear HB; have HO_5 := n0_; have HO_6 := n1_; have HO_8 := n2_; have BK0 := n3_; have HB := n4_; clear n0_ n1_ n2_ n3_ n4_; clear hg hw hp_))
         go_roundg kj12
         case measure => have := HK1.out; have := HK2.out; have := HJ12.out; omega
         case rel => exact ⟨(y174), (wrap64 (x9_2 + 1)), (by first | rfl | (simp; done) | (simp [*]; done)), H', ⟨by have := HK1.out; have := HK2.out; have := HJ12.out; omega⟩, ⟨by (with_reducible repeat (first | apply Kd.R_alloc | apply Kd.R_drewN | apply Kd.R_drew)); exact HO_5.out⟩, ⟨by (with_reducible repeat (first | apply Kd.S_alloc | apply Kd.S_drewN | apply Kd.S_drew)); exact Kd.S_mono HO_6.out (fun _ hk => hk.2)⟩, ⟨by (with_reducible repeat (first | apply Kd.R_alloc | apply Kd.R_drewN | apply Kd.R_drew)); exact HO_8.out⟩, ⟨by (with_reducible repeat (first | refine bn_ ?_ _ | refine bd_ ?_ | refine ba_ ?_ _)); exact BK0.out⟩, ⟨by repeat (first | (with_reducible first | exact HB.out | apply pA | apply pN | apply pD | refine pS ?_ GE0.out) | exact HB.out)⟩⟩
        replace c32 := Bool.eq_false_iff.mpr c32
        subst c32
        have H1 : (if x7_1 < (t158.length : Int) then (if 0 < (x8_2.length : Int) then (spec_l05Marks.l1 kj12 a1 t158 x6_1 x7_1 (x8_2.set (0 : Int).toNat (decide ((rd t158 x7_1) < 0))) (wrap64 (x9_2 + 1)) l0_0) else (none)) else (none)) = some r := by rw [if_neg (show ¬ (false = true) by decide)] at H; exact H
        clear H
        have H := H1
        clear H1
        by_cases c40 : x7_1 < (t158.length : Int)
        rotate_left
        ·rw [if_neg c40] at H
         exact absurd H (by simp)
        rw [if_pos c40] at H
        have c40b0 : decide (x7_1 < (t158.length : Int)) = true := decide_eq_true c40
        clear c40
        by_cases c41 : 0 < (x8_2.length : Int)
        rotate_left
        ·rw [if_neg c41] at H
         exact absurd H (by simp)
        rw [if_pos c41] at H
        have c41b0 : decide (0 < (x8_2.length : Int)) = true := decide_eq_true c41
        have c41b1 : decide (0 < x8_2.length) = true := decide_eq_true (by omega)
        clear c41
        obtain ⟨y176, hy176⟩ : ∃ y_ : List Bool, y_ = (x8_2.set (0 : Int).toNat (decide ((rd t158 x7_1) < 0))) := ⟨_, rfl⟩
        replace H : (spec_l05Marks.l1 kj12 a1 t158 x6_1 x7_1 y176 (wrap64 (x9_2 + 1)) l0_0) = some r := by first | (rw [hy176]; with_reducible exact H) | (have H2_ := (Option.bind_some _ _).symm.trans H; rw [hy176]; with_reducible exact H2_) | (have H2_ := (Option.bind_some _ _).symm.trans H; with_reducible exact H2_) | with_reducible exact H | (rw [hy176]; exact H) | exact H
        have Ny176 := AZ.mk hy176
        clear hy176
        have H' := AZ.mk H
        clear H
        try go_wp2
        have n0_ := AZ.mk (Kd.R_drew HO_5.out)
        have n1_ := AZ.mk (Kd.S_drew HO_6.out)
        have n2_ := AZ.mk (Kd.R_drew HO_8.out)
        have n3_ := AZ.mk (bd_ BK0.out)
        have n4_ := AZ.mk (pD HB.out)
        clear HO_5
        clear HO_6
        clear HO_8
        clear BK0
        clear HB
        have HO_5 := n0_
        have HO_6 := n1_
        have HO_8 := n2_
        have BK0 := n3_
        have HB := n4_
        clear n0_ n1_ n2_ n3_ n4_
        have p171 : 0 ≤ (x9_2 : Int) := oT (by first | (with_reducible assumption) | assumption)
        have q171 : x9_2 < (l0_0.length : Int) := oT (by first | (with_reducible assumption) | assumption)
        obtain ⟨ad171, e171, hx171_0, hx171_1⟩ := at_T62 HR0_0.out x9_2 p171 q171
        have hw171_1 := hx171_1
        have hw171_0 := hx171_0
        (try rw [← Nbq31.out] at hx171_0)
        cases e171
        replace hx171_0 := (HB.out.cell (World.block_lt_of_cell? w _ hx171_0)).trans hx171_0
        replace hx171_1 := (HB.out.cell (World.block_lt_of_cell? w _ hx171_1)).trans hx171_1
        replace p171 := eq_true p171
        replace q171 := eq_true q171
        have p26 : 0 ≤ (x7_1 : Int) := oT (by first | (with_reducible assumption) | assumption)
        have q26 : x7_1 < (a1.size : Int) := oT (by first | (with_reducible assumption) | assumption)
        have hx26 := bt_at a1 x7_1
        replace p26 := eq_true p26
        replace q26 := eq_true q26
        refine start_ (n := 13) (S := fun w' => w'.cell? ⟨g0_, 0, none⟩ = some (.slice (some ad171) l0_0.length c0_0) ∧ w'.cell? (ad171.add ((x9_2).toNat * 2)) = some (.bool ((rd_T62 l0_0 x9_2).f0)) ∧ w'.cell? ⟨(ad171.add ((x9_2).toNat * 2)).block, (ad171.add ((x9_2).toNat * 2)).off + 1, none⟩ = some (.string ((rd_T62 l0_0 x9_2).f1))) (ds := []) (bz 13 0) (by kernel_rfl) rfl rfl ⟨(bc BK0.out 0).trans rfl, ((HB.out.cell (World.block_lt_of_cell? w _ hw171_0)).trans hw171_0), ((HB.out.cell (World.block_lt_of_cell? w _ hw171_1)).trans hw171_1)⟩ (fun hHeld => ?_); refine with_tabW spec_l05Marks.tab10 spec_l05Marks.bits10 (fun HT_ HW_ => ?_)
        generalize wc.drew = w43 at HO_5 HO_6 HO_8 BK0 HB hx171_0 hx171_1 hHeld ⊢
        iterate 11 (first | (refine pz_ HT_ spec_l05Marks.cz0 rfl rfl rfl (v := ?_) (a' := ?_) (by kernel_rfl) (fun _ _ _ h => h) (Or.inl ⟨by rfl, ?_⟩) ?_ ?_; rotate_left; (intro w'; go_simp; with_reducible rfl); rotate_left; (simp only [Act.put, sA, sB, sC, i64_w, i32_w]; rfl)) | (refine tz_ HT_ HW_ spec_l05Marks.cz0 rfl rfl rfl (v := ?_) (a' := ?_) (by kernel_rfl) (fun _ _ _ h => h) (Or.inl ⟨by rfl, ?_⟩) hHeld ?_ ?_; rotate_left; (rintro w' ⟨s0, s1, s2⟩; go_simp; with_reducible rfl); rotate_left; (simp only [Act.put, sA, sB, sC, i64_w, i32_w]; rfl)))
        refine one_ (i := 11) (N := some 52) (bz 13 4095) rfl rfl (one_of HT_.out (by kernel_rfl)) (by decide) (fun K hK => ?_)
        refine goes_ Try.func50 (by kernel_rfl) rfl #[.string ((rd_T62 l0_0 x9_2).f1), .int .u8 (bt a1 x7_1)] (by rfl) rfl rfl (by (try simp only [List.map_toArray, List.map_cons, List.map_nil]); first | done | rfl | (simp only [List.length_drop, List.length_take]; rfl)) ?_
        with_reducible refine (spec_l05Passes.calls ((rd_T62 l0_0 x9_2).f1) (bt a1 x7_1) true _ A27.out).mono ?_
        rintro e w44 ⟨rfl, hb⟩
        refine ⟨_, rfl, ?_⟩
        have n0_ := AZ.mk (Kd.R_below (by (with_reducible repeat (first | apply Kd.R_alloc | apply Kd.R_drewN | apply Kd.R_drew)); exact HO_5.out) hb)
        have n1_ := AZ.mk (Kd.S_below (by (with_reducible repeat (first | apply Kd.S_alloc | apply Kd.S_drewN | apply Kd.S_drew)); exact HO_6.out) hb)
        have n2_ := AZ.mk (Kd.R_below (by (with_reducible repeat (first | apply Kd.R_alloc | apply Kd.R_drewN | apply Kd.R_drew)); exact HO_8.out) hb)
        have n3_ := AZ.mk (bb_ (g := g0_) (o := .cells #[.slice (some ad171) l0_0.length c0_0] 30 (0, 0)) (by (with_reducible repeat (first | refine bn_ ?_ _ | refine bd_ ?_ | refine ba_ ?_ _)); exact BK0.out) hb)
        have n4_ := AZ.mk (pT (by repeat (first | (with_reducible first | exact HB.out | apply pA | apply pN | apply pD | refine pS ?_ GE0.out) | exact HB.out)) hb)
        clear HO_5
        clear HO_6
        clear HO_8
        clear BK0
        clear HB
        have HO_5 := n0_
        have HO_6 := n1_
        have HO_8 := n2_
        have BK0 := n3_
        have HB := n4_
        clear n0_ n1_ n2_ n3_ n4_
        (try clear hb)
        (try clear hb2)
        (try clear hk)
        (try clear hi)
        refine hK.out _ _ ⟨(bc BK0.out 0).trans rfl, ((HB.out.cell (World.block_lt_of_cell? w _ hw171_0)).trans hw171_0), ((HB.out.cell (World.block_lt_of_cell? w _ hw171_1)).trans hw171_1)⟩ (fun hHeld => ?_)
        clear hK K
        refine norm_ (a' := ?_) ?_ ?_
        rotate_left
        ·show Act.put _ (some 52) _ = _
         simp only [Act.put, sA, sB, sC, i64_w, i32_w]
         rfl
        refine pure_ (i := 12) (N := some 53) (v := ?_) (a' := ?_) (bz 13 8191) rfl rfl (any_of HT_.out (by kernel_rfl)) (fun _ _ _ h => h) (Or.inl ⟨by rfl, ?_⟩) ?_ ?_
        rotate_left
        ·intro w'
         go_simp
         with_reducible rfl
        rotate_left
        ·simp only [Act.put, sA, sB, sC, i64_w, i32_w]
         rfl
        refine done_ (done_of HT_.out (by kernel_rfl)) ?_
        have hcz45_0 : w44.cell? ⟨g0_, 0, none⟩ = some (.slice (some ad171) l0_0.length c0_0) := (bc BK0.out 0).trans rfl
        have hfz45_0 := bf BK0.out 0
        have p173 : 0 ≤ (0 : Int) := (by omega)
        have q173 : 0 < (l0_0.length : Int) := oT (by first | (with_reducible assumption) | assumption)
        obtain ⟨ad173, e173, hx173_0, hx173_1⟩ := at_T62 HR0_0.out 0 p173 q173
        (try rw [← Nbq31.out] at hx173_0)
        obtain rfl : ad171 = ad173 := (by injection e173)
        have qi173 : (0 < l0_0.length) = True := eq_true (by omega)
        (try rw [show ((0 : Int)).toNat = 0 from rfl] at hx173_0)
        (try rw [show 0 * 2 = 0 from rfl] at hx173_0)
        (try rw [Addr.add_zero'] at hx173_0)
        (try rw [show ((0 : Int)).toNat = 0 from rfl] at hx173_1)
        (try rw [show 0 * 2 = 0 from rfl] at hx173_1)
        (try rw [Addr.add_zero'] at hx173_1)
        replace hx173_0 := (HB.out.cell (World.block_lt_of_cell? w _ hx173_0)).trans hx173_0
        replace hx173_1 := (HB.out.cell (World.block_lt_of_cell? w _ hx173_1)).trans hx173_1
        replace p173 := eq_true p173
        replace q173 := eq_true q173
        obtain ⟨Ao46, co46, eo46⟩ := Kd.R_slice HO_5.out
        subst eo46
        have p175 : 0 ≤ (x7_1 : Int) := oT (by first | (with_reducible assumption) | assumption)
        have q175 : x7_1 < (t158.length : Int) := oT (by first | (with_reducible assumption) | assumption)
        obtain ⟨ad175, e175, hx175_0⟩ := Kd.at_int (Kd.R_reads' HO_5.out).2.2 x7_1 p175 q175
        cases e175
        replace p175 := eq_true p175
        replace q175 := eq_true q175
        have p42 : 0 ≤ (0 : Int) := (by omega)
        have q42 : (0 : Int) < ((x8_2.length : Int) : Int) := oT (by first | (with_reducible assumption) | assumption)
        have qi42 : (0 < x8_2.length) = True := eq_true (by omega)
        obtain ⟨go42, co42, eo42, gb42, gl42, cl42, HG42⟩ := Kd.R_form HO_8.out (by omega)
        (first | cases eo42 | (injection eo42 with ea_ en_ ec_; (first | subst ea_ | (injection ea_ with ea_; subst ea_)); subst ec_; clear en_))
        have GB42 := AZ.mk gb42
        have GG42 := AZ.mk HG42
        clear gb42 gl42 HG42
        obtain ⟨hx42_0, hf42_0⟩ := Kd.R_celln false HO_8.out (0 : Int) p42 q42
        (try rw [show ((0 : Int)).toNat = 0 from rfl] at hx42_0)
        (try simp only [Nat.reduceMul, Nat.zero_mul, Nat.zero_add, Nat.reduceAdd] at hx42_0)
        (try rw [show ((0 : Int)).toNat = 0 from rfl] at hf42_0)
        (try simp only [Nat.reduceMul, Nat.zero_mul, Nat.zero_add, Nat.reduceAdd] at hf42_0)
        replace p42 := eq_true p42
        replace q42 := eq_true q42
        obtain ⟨hy47_, hz47_⟩ := Kd.R_celln false HO_8.out (0 : Int) (by omega) (oT (by first | (with_reducible assumption) | assumption))
        (try simp only [Int.reduceToNat, Int.toNat_zero, Int.toNat_ofNat, Nat.reduceMul, Nat.zero_mul, Nat.zero_add] at hy47_ hz47_)
        (try rw [show ((0 : Int)).toNat = 0 from rfl] at hy47_)
        (try rw [show ((0 : Int)).toNat = 0 from rfl] at hz47_)
        have HP47 := Kd.R_putg HO_8.out (0 : Int) (decide ((rd t158 x7_1) < 0))
        try go_wp2_with (first | ((with_reducible refine gate_store (t := 4) (p := 71) rfl ?_); refine store_event (t := 4) (p := 71) (v := ?vo_w48) (w1 := (w44.setCell ⟨go42, (0 : Int).toNat, none⟩ (.bool (decide ((rd t158 x7_1) < 0))))) ?hg ?ho ?hn ?hr ?_; (case ho => rfl); (case hg => rfl); (case hn => rfl); (case hr => first | (go_simp; done) | (go_simp; rfl)); intro w48 hw; have hg : w44.grownBy w48 (some go42) := (by rw [hw]; exact HP47.2); have hp_ : Kd.R Kd.bool 4 w48 w.heap.size (fun _ => True) (.slice (some ⟨go42, 0, none⟩) x8_2.length co42) y176 := (by rw [hw, Ny176.out]; exact HP47.1); clear HP47; have n0_ := AZ.mk (Kd.R_over' (v := (.slice (some ⟨go42, 0, none⟩) x8_2.length co42)) (by (with_reducible repeat (first | apply Kd.R_alloc | apply Kd.R_drewN | apply Kd.R_drew)); exact HO_5.out) (Kd.R_typed HO_8.out) (by decide) hg); have n1_ := AZ.mk (Kd.S_after (v := (.slice (some ⟨go42, 0, none⟩) x8_2.length co42)) (v1 := (.slice (some ⟨go42, 0, none⟩) x8_2.length co42)) (ok := (fun _ => True)) (by (with_reducible repeat (first | apply Kd.S_alloc | apply Kd.S_drewN | apply Kd.S_drew)); exact Kd.S_mono HO_6.out (fun _ hk => ⟨trivial, hk⟩)) hg (.inl rfl)); have n2_ := AZ.mk (hp_); have n3_ := AZ.mk (blk_grown (g := g0_) (o := .cells #[.slice (some ad171) l0_0.length c0_0] 30 (0, 0)) (by (with_reducible repeat (first | refine bn_ ?_ _ | refine bd_ ?_ | refine ba_ ?_ _)); exact BK0.out) hg (Kd.R_ne HO_8.out BK0.out (by decide))); have n4_ := AZ.mk ((by rw [hw]; exact pS (HB.out) GB42.out : Below w.heap.size w w48)); clear HO_5; clear HO_6; clear HO_8; clear BK0; clear HB; have HO_5 := n0_; have HO_6 := n1_; have HO_8 := n2_; have BK0 := n3_; have HB := n4_; clear n0_ n1_ n2_ n3_ n4_; clear hg hw hp_))
        go_roundg kj12
        case measure => have := HK1.out; have := HK2.out; have := HJ12.out; omega
        case rel => exact ⟨(y176), (wrap64 (x9_2 + 1)), (by first | rfl | (simp; done) | (simp [*]; done)), H', ⟨by have := HK1.out; have := HK2.out; have := HJ12.out; omega⟩, ⟨by (with_reducible repeat (first | apply Kd.R_alloc | apply Kd.R_drewN | apply Kd.R_drew)); exact HO_5.out⟩, ⟨by (with_reducible repeat (first | apply Kd.S_alloc | apply Kd.S_drewN | apply Kd.S_drew)); exact Kd.S_mono HO_6.out (fun _ hk => hk.2)⟩, ⟨by (with_reducible repeat (first | apply Kd.R_alloc | apply Kd.R_drewN | apply Kd.R_drew)); exact HO_8.out⟩, ⟨by (with_reducible repeat (first | refine bn_ ?_ _ | refine bd_ ?_ | refine ba_ ?_ _)); exact BK0.out⟩, ⟨by repeat (first | (with_reducible first | exact HB.out | apply pA | apply pN | apply pD | refine pS ?_ GE0.out) | exact HB.out)⟩⟩
       rw [if_neg c29] at H
       have c29b0 : (x9_2 == 0) = false := beq_eq_false_iff_ne.mpr c29
       have c29b1 : (x9_2 != 0) = true := bne_iff_ne.mpr c29
       by_cases c49 : x7_1 < (t158.length : Int)
       rotate_left
       ·rw [if_neg c49] at H
        exact absurd H (by simp)
       rw [if_pos c49] at H
       have c49b0 : decide (x7_1 < (t158.length : Int)) = true := decide_eq_true c49
       clear c49
       have H' := AZ.mk H
       clear H
       try go_wp2
       have n0_ := AZ.mk (Kd.R_drew HO_5.out)
       have n1_ := AZ.mk (Kd.S_drew HO_6.out)
       have n2_ := AZ.mk (Kd.R_drew HO_8.out)
       have n3_ := AZ.mk (bd_ BK0.out)
       have n4_ := AZ.mk (pD HB.out)
       clear HO_5
       clear HO_6
       clear HO_8
       clear BK0
       clear HB
       have HO_5 := n0_
       have HO_6 := n1_
       have HO_8 := n2_
       have BK0 := n3_
       have HB := n4_
       clear n0_ n1_ n2_ n3_ n4_
       have p171 : 0 ≤ (x9_2 : Int) := oT (by first | (with_reducible assumption) | assumption)
       have q171 : x9_2 < (l0_0.length : Int) := oT (by first | (with_reducible assumption) | assumption)
       obtain ⟨ad171, e171, hx171_0, hx171_1⟩ := at_T62 HR0_0.out x9_2 p171 q171
       have hw171_1 := hx171_1
       have hw171_0 := hx171_0
       cases e171
       replace hx171_0 := (HB.out.cell (World.block_lt_of_cell? w _ hx171_0)).trans hx171_0
       replace hx171_1 := (HB.out.cell (World.block_lt_of_cell? w _ hx171_1)).trans hx171_1
       replace p171 := eq_true p171
       replace q171 := eq_true q171
       have p26 : 0 ≤ (x7_1 : Int) := oT (by first | (with_reducible assumption) | assumption)
       have q26 : x7_1 < (a1.size : Int) := oT (by first | (with_reducible assumption) | assumption)
       have hx26 := bt_at a1 x7_1
       replace p26 := eq_true p26
       replace q26 := eq_true q26
       refine start_ (n := 13) (S := fun w' => w'.cell? ⟨g0_, 0, none⟩ = some (.slice (some ad171) l0_0.length c0_0) ∧ w'.cell? (ad171.add ((x9_2).toNat * 2)) = some (.bool ((rd_T62 l0_0 x9_2).f0)) ∧ w'.cell? ⟨(ad171.add ((x9_2).toNat * 2)).block, (ad171.add ((x9_2).toNat * 2)).off + 1, none⟩ = some (.string ((rd_T62 l0_0 x9_2).f1))) (ds := []) (bz 13 0) (by kernel_rfl) rfl rfl ⟨(bc BK0.out 0).trans rfl, ((HB.out.cell (World.block_lt_of_cell? w _ hw171_0)).trans hw171_0), ((HB.out.cell (World.block_lt_of_cell? w _ hw171_1)).trans hw171_1)⟩ (fun hHeld => ?_); refine with_tabW spec_l05Marks.tab10 spec_l05Marks.bits10 (fun HT_ HW_ => ?_)
       generalize wc.drew = w50 at HO_5 HO_6 HO_8 BK0 HB hx171_0 hx171_1 hHeld ⊢
       iterate 11 (first | (refine pz_ HT_ spec_l05Marks.cz0 rfl rfl rfl (v := ?_) (a' := ?_) (by kernel_rfl) (fun _ _ _ h => h) (Or.inl ⟨by rfl, ?_⟩) ?_ ?_; rotate_left; (intro w'; go_simp; with_reducible rfl); rotate_left; (simp only [Act.put, sA, sB, sC, i64_w, i32_w]; rfl)) | (refine tz_ HT_ HW_ spec_l05Marks.cz0 rfl rfl rfl (v := ?_) (a' := ?_) (by kernel_rfl) (fun _ _ _ h => h) (Or.inl ⟨by rfl, ?_⟩) hHeld ?_ ?_; rotate_left; (rintro w' ⟨s0, s1, s2⟩; go_simp; with_reducible rfl); rotate_left; (simp only [Act.put, sA, sB, sC, i64_w, i32_w]; rfl)))
       refine one_ (i := 11) (N := some 52) (bz 13 4095) rfl rfl (one_of HT_.out (by kernel_rfl)) (by decide) (fun K hK => ?_)
       refine goes_ Try.func50 (by kernel_rfl) rfl #[.string ((rd_T62 l0_0 x9_2).f1), .int .u8 (bt a1 x7_1)] (by rfl) rfl rfl (by (try simp only [List.map_toArray, List.map_cons, List.map_nil]); first | done | rfl | (simp only [List.length_drop, List.length_take]; rfl)) ?_
       with_reducible refine (spec_l05Passes.calls ((rd_T62 l0_0 x9_2).f1) (bt a1 x7_1) true _ A27.out).mono ?_
       rintro e w51 ⟨rfl, hb⟩
       refine ⟨_, rfl, ?_⟩
       have n0_ := AZ.mk (Kd.R_below (by (with_reducible repeat (first | apply Kd.R_alloc | apply Kd.R_drewN | apply Kd.R_drew)); exact HO_5.out) hb)
       have n1_ := AZ.mk (Kd.S_below (by (with_reducible repeat (first | apply Kd.S_alloc | apply Kd.S_drewN | apply Kd.S_drew)); exact HO_6.out) hb)
       have n2_ := AZ.mk (Kd.R_below (by (with_reducible repeat (first | apply Kd.R_alloc | apply Kd.R_drewN | apply Kd.R_drew)); exact HO_8.out) hb)
       have n3_ := AZ.mk (bb_ (g := g0_) (o := .cells #[.slice (some ad171) l0_0.length c0_0] 30 (0, 0)) (by (with_reducible repeat (first | refine bn_ ?_ _ | refine bd_ ?_ | refine ba_ ?_ _)); exact BK0.out) hb)
       have n4_ := AZ.mk (pT (by repeat (first | (with_reducible first | exact HB.out | apply pA | apply pN | apply pD | refine pS ?_ GE0.out) | exact HB.out)) hb)
       clear HO_5
       clear HO_6
       clear HO_8
       clear BK0
       clear HB
       have HO_5 := n0_
       have HO_6 := n1_
       have HO_8 := n2_
       have BK0 := n3_
       have HB := n4_
       clear n0_ n1_ n2_ n3_ n4_
       (try clear hb)
       (try clear hb2)
       (try clear hk)
       (try clear hi)
       refine hK.out _ _ ⟨(bc BK0.out 0).trans rfl, ((HB.out.cell (World.block_lt_of_cell? w _ hw171_0)).trans hw171_0), ((HB.out.cell (World.block_lt_of_cell? w _ hw171_1)).trans hw171_1)⟩ (fun hHeld => ?_)
       clear hK K
       refine norm_ (a' := ?_) ?_ ?_
       rotate_left
       ·show Act.put _ (some 52) _ = _
        simp only [Act.put, sA, sB, sC, i64_w, i32_w]
        rfl
       refine pure_ (i := 12) (N := some 53) (v := ?_) (a' := ?_) (bz 13 8191) rfl rfl (any_of HT_.out (by kernel_rfl)) (fun _ _ _ h => h) (Or.inl ⟨by rfl, ?_⟩) ?_ ?_
       rotate_left
       ·intro w'
        go_simp
        with_reducible rfl
       rotate_left
       ·simp only [Act.put, sA, sB, sC, i64_w, i32_w]
        rfl
       refine done_ (done_of HT_.out (by kernel_rfl)) ?_
       obtain ⟨Ao52, co52, eo52⟩ := Kd.R_slice HO_5.out
       subst eo52
       have p177 : 0 ≤ (x7_1 : Int) := oT (by first | (with_reducible assumption) | assumption)
       have q177 : x7_1 < (t158.length : Int) := oT (by first | (with_reducible assumption) | assumption)
       obtain ⟨ad177, e177, hx177_0⟩ := Kd.at_int (Kd.R_reads' HO_5.out).2.2 x7_1 p177 q177
       cases e177
       replace p177 := eq_true p177
       replace q177 := eq_true q177
       try go_wp2
       go_loopg [10] kj12 (fun kq v10 w' => ∃ (x8_4 : List Bool) (x10_4 : Int), v10 = .int .i64 x10_4 ∧ AZ (spec_l05Marks.l2 kq a1 t158 x6_1 x7_1 x8_4 x9_2 x10_4 l0_0 = some r) ∧ AZ (kq ≤ kj12) ∧ AZ (Kd.R (Kd.int .i64) 2 w' w.heap.size (fun _ => True) (.slice (some ad177) t158.length co52) t158) ∧ AZ (Kd.S (Kd.slice 4 Kd.bool) 61 w' w.heap.size (fun k_ => some k_ ≠ (v165 : Value).ownBlock) u6 x6_1) ∧ AZ (Kd.R Kd.bool 4 w' w.heap.size (fun _ => True) v165 x8_4) ∧ AZ (w'.heap[g0_]? = some (.cells #[(.slice (some ad171) l0_0.length c0_0)] 30 (0, 0))) ∧ AZ (Below w.heap.size w w'))
       case atStart => exact ⟨(x8_2), (rd t158 x7_1), (by first | rfl | (simp; done) | (simp [*]; done)), H', ⟨Nat.le_refl _⟩, ⟨by (with_reducible repeat (first | apply Kd.R_alloc | apply Kd.R_drewN | apply Kd.R_drew)); exact HO_5.out⟩, ⟨by (with_reducible repeat (first | apply Kd.S_alloc | apply Kd.S_drewN | apply Kd.S_drew)); exact HO_6.out⟩, ⟨by (with_reducible repeat (first | apply Kd.R_alloc | apply Kd.R_drewN | apply Kd.R_drew)); exact HO_8.out⟩, ⟨by (with_reducible repeat (first | refine bn_ ?_ _ | refine bd_ ?_ | refine ba_ ?_ _)); exact BK0.out⟩, ⟨by repeat (first | (with_reducible first | exact HB.out | apply pA | apply pN | apply pD | refine pS ?_ GE0.out) | exact HB.out)⟩⟩
       case round =>
        clear H'
        try clear p1
        try clear q1
        try clear hx1
        try clear qi1
        try clear c2
        try clear p2
        try clear q2
        try clear hx2
        try clear c3
        try clear p3
        try clear q3
        try clear hx3
        try clear qi3
        try clear hf3
        try clear c4
        try clear p4
        try clear q4
        try clear hx4
        try clear qi4
        try clear hf4
        try clear c5
        try clear p6
        try clear p17
        try clear q17
        try clear hx17
        try clear qi17
        try clear p26
        try clear q26
        try clear hx26
        try clear c29
        try clear c29b0
        try clear c29b1
        try clear c30
        try clear q31
        try clear c32
        try clear c33
        try clear p34
        try clear q34
        try clear hx34
        try clear qi34
        try clear hf34
        try clear c40
        try clear c40b0
        try clear c41
        try clear c41b0
        try clear c41b1
        try clear p42
        try clear q42
        try clear hx42
        try clear qi42
        try clear hf42
        try clear c49
        try clear c49b0
        try clear c50
        try clear hcz37_0
        try clear hcz45_0
        try clear hfz37_0
        try clear hfz45_0
        try clear hx171_0
        try clear hx171_1
        try clear hx173_0
        try clear hx173_1
        try clear hx175_0
        try clear hx177_0
        try clear hx34_0
        try clear hx42_0
        try clear p171
        try clear p173
        try clear p175
        try clear p177
        try clear p26
        try clear p34
        try clear p42
        try clear q171
        try clear q173
        try clear q175
        try clear q177
        try clear q26
        try clear q34
        try clear q42
        obtain ⟨x8_4, x10_4, rfl, HA, HK4, HO_5, HO_6, HO_8, BK0, HB⟩ := hrel
        cases gk with
        | zero => exact absurd HA.out (by simp [spec_l05Marks.l2])
        | succ k4 =>
         have H := HA.out
         clear HA
         simp only [spec_l05Marks.l2] at H
         by_cases c53 : x10_4 ≥ 0
         rotate_left
         ·rw [if_neg c53] at H
          have c53b0 : decide (0 ≤ x10_4) = false := decide_eq_false c53
          clear c53
          have H' := AZ.mk H
          clear H
          go_wp2
          go_roundg k4
          case measure => have := HK1.out; have := HK2.out; have := HJ12.out; have := HK4.out; omega
          case rel => exact ⟨(x8_4), (wrap64 (x9_2 + 1)), (by first | rfl | (simp; done) | (simp [*]; done)), H', ⟨by have := HK1.out; have := HK2.out; have := HJ12.out; have := HK4.out; omega⟩, ⟨by (with_reducible repeat (first | apply Kd.R_alloc | apply Kd.R_drewN | apply Kd.R_drew)); exact HO_5.out⟩, ⟨by (with_reducible repeat (first | apply Kd.S_alloc | apply Kd.S_drewN | apply Kd.S_drew)); exact HO_6.out⟩, ⟨by (with_reducible repeat (first | apply Kd.R_alloc | apply Kd.R_drewN | apply Kd.R_drew)); exact HO_8.out⟩, ⟨by (with_reducible repeat (first | refine bn_ ?_ _ | refine bd_ ?_ | refine ba_ ?_ _)); exact BK0.out⟩, ⟨by repeat (first | (with_reducible first | exact HB.out | apply pA | apply pN | apply pD | refine pS ?_ GE0.out) | exact HB.out)⟩⟩
         rw [if_pos c53] at H
         have c53b0 : decide (0 ≤ x10_4) = true := decide_eq_true c53
         clear c53
         by_cases c54 : 0 ≤ x10_4
         rotate_left
         ·rw [if_neg c54] at H
          exact absurd H (by simp)
         rw [if_pos c54] at H
         have c54b0 : decide (0 ≤ x10_4) = true := decide_eq_true c54
         clear c54
         by_cases c55 : x10_4 < (x6_1.length : Int)
         rotate_left
         ·rw [if_neg c55] at H
          exact absurd H (by simp)
         rw [if_pos c55] at H
         have c55b0 : decide (x10_4 < (x6_1.length : Int)) = true := decide_eq_true c55
         clear c55
         obtain ⟨ji56, hji56⟩ : ∃ j_ : Int, (wrap64 (x9_2 - 1)) = j_ := ⟨_, rfl⟩
         replace H : (if 0 ≤ (ji56) then (if (ji56) < ((rd_L6 x6_1 x10_4).length : Int) then (if rdOf false (rd_L6 x6_1 x10_4) (ji56) = true then (if 0 ≤ x9_2 then (if x9_2 < (x8_4.length : Int) then ((some (x8_4.set (x9_2 : Int).toNat true : List Bool)).bind fun y180 => (if x9_2 < (l0_0.length : Int) then (if ((rd_T62 l0_0 x9_2).f0 = true) then (if x10_4 < (t158.length : Int) then (spec_l05Marks.l2 k4 a1 t158 x6_1 x7_1 y180 x9_2 (rd t158 x10_4) l0_0) else (none)) else (spec_l05Marks.l1 k4 a1 t158 x6_1 x7_1 y180 (wrap64 (x9_2 + 1)) l0_0)) else (none))) else (none)) else (none)) else (if 0 ≤ x9_2 then (if x9_2 < (l0_0.length : Int) then (if ((rd_T62 l0_0 x9_2).f0 = true) then (if x10_4 < (t158.length : Int) then (spec_l05Marks.l2 k4 a1 t158 x6_1 x7_1 x8_4 x9_2 (rd t158 x10_4) l0_0) else (none)) else (spec_l05Marks.l1 k4 a1 t158 x6_1 x7_1 x8_4 (wrap64 (x9_2 + 1)) l0_0)) else (none)) else (none))) else (none)) else (none)) = some r := by first | (rw [hji56] at H; exact H) | (simp only [hji56] at H ⊢; exact H)
         have hji56w : (IntKind.i64.wrap (x9_2 - 1)) = ji56 := (i64_w _).trans hji56
         by_cases c57 : 0 ≤ (ji56)
         rotate_left
         ·rw [if_neg c57] at H
          exact absurd H (by simp)
         rw [if_pos c57] at H
         have c57b0 : decide (0 ≤ (ji56)) = true := decide_eq_true c57
         clear c57
         by_cases c58 : (ji56) < ((rd_L6 x6_1 x10_4).length : Int)
         rotate_left
         ·rw [if_neg c58] at H
          exact absurd H (by simp)
         rw [if_pos c58] at H
         have c58b0 : decide ((ji56) < ((rd_L6 x6_1 x10_4).length : Int)) = true := decide_eq_true c58
         clear c58
         obtain ⟨bq59, hbq59⟩ : ∃ b_ : Bool, b_ = (rdOf false (rd_L6 x6_1 x10_4) (ji56)) := ⟨_, rfl⟩
         replace H : (if bq59 = true then (if 0 ≤ x9_2 then (if x9_2 < (x8_4.length : Int) then ((some (x8_4.set (x9_2 : Int).toNat true : List Bool)).bind fun y180 => (if x9_2 < (l0_0.length : Int) then (if ((rd_T62 l0_0 x9_2).f0 = true) then (if x10_4 < (t158.length : Int) then (spec_l05Marks.l2 k4 a1 t158 x6_1 x7_1 y180 x9_2 (rd t158 x10_4) l0_0) else (none)) else (spec_l05Marks.l1 k4 a1 t158 x6_1 x7_1 y180 (wrap64 (x9_2 + 1)) l0_0)) else (none))) else (none)) else (none)) else (if 0 ≤ x9_2 then (if x9_2 < (l0_0.length : Int) then (if ((rd_T62 l0_0 x9_2).f0 = true) then (if x10_4 < (t158.length : Int) then (spec_l05Marks.l2 k4 a1 t158 x6_1 x7_1 x8_4 x9_2 (rd t158 x10_4) l0_0) else (none)) else (spec_l05Marks.l1 k4 a1 t158 x6_1 x7_1 x8_4 (wrap64 (x9_2 + 1)) l0_0)) else (none)) else (none))) = some r := by rw [← hbq59] at H; exact H
         have Nbq59 := AZ.mk hbq59
         clear hbq59
         by_cases c60 : bq59 = true
         rotate_left
         ·replace c60 := Bool.eq_false_iff.mpr c60
          subst c60
          have H1 : (if 0 ≤ x9_2 then (if x9_2 < (l0_0.length : Int) then (if ((rd_T62 l0_0 x9_2).f0 = true) then (if x10_4 < (t158.length : Int) then (spec_l05Marks.l2 k4 a1 t158 x6_1 x7_1 x8_4 x9_2 (rd t158 x10_4) l0_0) else (none)) else (spec_l05Marks.l1 k4 a1 t158 x6_1 x7_1 x8_4 (wrap64 (x9_2 + 1)) l0_0)) else (none)) else (none)) = some r := by rw [if_neg (show ¬ (false = true) by decide)] at H; exact H
          clear H
          have H := H1
          clear H1
          by_cases c76 : 0 ≤ x9_2
          rotate_left
          ·rw [if_neg c76] at H
           exact absurd H (by simp)
          rw [if_pos c76] at H
          have c76b0 : decide (0 ≤ x9_2) = true := decide_eq_true c76
          clear c76
          by_cases c77 : x9_2 < (l0_0.length : Int)
          rotate_left
          ·rw [if_neg c77] at H
           exact absurd H (by simp)
          rw [if_pos c77] at H
          have c77b0 : decide (x9_2 < (l0_0.length : Int)) = true := decide_eq_true c77
          clear c77
          obtain ⟨bq78, hbq78⟩ : ∃ b_ : Bool, b_ = ((rd_T62 l0_0 x9_2).f0) := ⟨_, rfl⟩
          replace H : (if (bq78 = true) then (if x10_4 < (t158.length : Int) then (spec_l05Marks.l2 k4 a1 t158 x6_1 x7_1 x8_4 x9_2 (rd t158 x10_4) l0_0) else (none)) else (spec_l05Marks.l1 k4 a1 t158 x6_1 x7_1 x8_4 (wrap64 (x9_2 + 1)) l0_0)) = some r := by rw [← hbq78] at H; exact H
          have Nbq78 := AZ.mk hbq78
          clear hbq78
          by_cases c79 : (bq78 = true)
          rotate_left
          ·replace c79 := Bool.eq_false_iff.mpr c79
           subst c79
           have H1 : (spec_l05Marks.l1 k4 a1 t158 x6_1 x7_1 x8_4 (wrap64 (x9_2 + 1)) l0_0) = some r := by rw [if_neg (show ¬ (false = true) by decide)] at H; exact H
           clear H
           have H := H1
           clear H1
           have H' := AZ.mk H
           clear H
           obtain ⟨Ao83, co83, eo83⟩ := Kd.S_slice HO_6.out
           subst eo83
           have p178 : 0 ≤ (x10_4 : Int) := oT (by first | (with_reducible assumption) | assumption)
           have q178 : x10_4 < (x6_1.length : Int) := oT (by first | (with_reducible assumption) | assumption)
           obtain ⟨ad178, A178_0, c178_0, e178, hx178_0, hl178_0, hi178_0⟩ := at_L6 (Kd.S_reads' HO_6.out).2.2 x10_4 p178 q178
           cases e178
           obtain ⟨ce178, hce178, hMe178, hcc178⟩ := Kd.S_get HO_6.out [] x10_4 p178 (by first | exact q178 | exact oT (by first | (with_reducible assumption) | assumption) | (have e_ := (Kd.S_reads' HO_6.out).1; omega))
           obtain ⟨ve178_0, rfl, ge178_0⟩ := hMe178
           have hv178_0 := hcc178 0 _ rfl
           rw [Nat.add_zero, show ((Kd.slice 4 Kd.bool)).sz = 1 from rfl, Nat.mul_one] at hv178_0
           replace hv178_0 := Option.some.inj (hv178_0.symm.trans hx178_0)
           rw [hv178_0] at ge178_0
           have HL178_0 := AZ.mk (show Kd.R Kd.bool 4 _ _ _ _ (rd_L6 x6_1 x10_4) from ge178_0)
           clear hv178_0 ge178_0
           clear hcc178 hce178
           have HR178_0 := AZ.mk hi178_0
           have HC178_0 := AZ.mk hl178_0
           clear hi178_0 hl178_0
           replace p178 := eq_true p178
           replace q178 := eq_true q178
           have p179 : 0 ≤ ((ji56) : Int) := oT (by first | (with_reducible assumption) | assumption)
           have q179 : (ji56) < ((rd_L6 x6_1 x10_4).length : Int) := oT (by first | (with_reducible assumption) | assumption)
           obtain ⟨ad179, e179, hx179_0⟩ := Kd.at_bool (by repeat (first | (with_reducible exact HR178_0.out) | (with_reducible refine Kd.C_alloc ?_ _) | (with_reducible refine Kd.C_drewN ?_ _) | (with_reducible refine Kd.C_drew ?_) | exact HR178_0.out)) (ji56) p179 q179
           (try rw [← Nbq59.out] at hx179_0)
           (try rw [← Nbq78.out] at hx179_0)
           cases e179
           replace p179 := eq_true p179
           replace q179 := eq_true q179
           have hcz84_0 : wr.cell? ⟨g0_, 0, none⟩ = some (.slice (some ad171) l0_0.length c0_0) := (bc BK0.out 0).trans rfl
           have hfz84_0 := bf BK0.out 0
           have p183 : 0 ≤ (x9_2 : Int) := oT (by first | (with_reducible assumption) | assumption)
           have q183 : x9_2 < (l0_0.length : Int) := oT (by first | (with_reducible assumption) | assumption)
           obtain ⟨ad183, e183, hx183_0, hx183_1⟩ := at_T62 HR0_0.out x9_2 p183 q183
           (try rw [← Nbq59.out] at hx183_0)
           (try rw [← Nbq78.out] at hx183_0)
           obtain rfl : ad171 = ad183 := (by injection e183)
           replace hx183_0 := (HB.out.cell (World.block_lt_of_cell? w _ hx183_0)).trans hx183_0
           replace hx183_1 := (HB.out.cell (World.block_lt_of_cell? w _ hx183_1)).trans hx183_1
           replace p183 := eq_true p183
           replace q183 := eq_true q183
           go_wp2
           go_roundg k4
           case measure => have := HK1.out; have := HK2.out; have := HJ12.out; have := HK4.out; omega
           case rel => exact ⟨(x8_4), (wrap64 (x9_2 + 1)), (by first | rfl | (simp; done) | (simp [*]; done)), H', ⟨by have := HK1.out; have := HK2.out; have := HJ12.out; have := HK4.out; omega⟩, ⟨by (with_reducible repeat (first | apply Kd.R_alloc | apply Kd.R_drewN | apply Kd.R_drew)); exact HO_5.out⟩, ⟨by (with_reducible repeat (first | apply Kd.S_alloc | apply Kd.S_drewN | apply Kd.S_drew)); exact HO_6.out⟩, ⟨by (with_reducible repeat (first | apply Kd.R_alloc | apply Kd.R_drewN | apply Kd.R_drew)); exact HO_8.out⟩, ⟨by (with_reducible repeat (first | refine bn_ ?_ _ | refine bd_ ?_ | refine ba_ ?_ _)); exact BK0.out⟩, ⟨by repeat (first | (with_reducible first | exact HB.out | apply pA | apply pN | apply pD | refine pS ?_ GE0.out) | exact HB.out)⟩⟩
          subst c79
          have H1 : (if x10_4 < (t158.length : Int) then (spec_l05Marks.l2 k4 a1 t158 x6_1 x7_1 x8_4 x9_2 (rd t158 x10_4) l0_0) else (none)) = some r := by rw [if_pos rfl] at H; exact H
          clear H
          have H := H1
          clear H1
          by_cases c80 : x10_4 < (t158.length : Int)
          rotate_left
          ·rw [if_neg c80] at H
           exact absurd H (by simp)
          rw [if_pos c80] at H
          have c80b0 : decide (x10_4 < (t158.length : Int)) = true := decide_eq_true c80
          clear c80
          have H' := AZ.mk H
          clear H
          obtain ⟨Ao81, co81, eo81⟩ := Kd.S_slice HO_6.out
          subst eo81
          have p178 : 0 ≤ (x10_4 : Int) := oT (by first | (with_reducible assumption) | assumption)
          have q178 : x10_4 < (x6_1.length : Int) := oT (by first | (with_reducible assumption) | assumption)
          obtain ⟨ad178, A178_0, c178_0, e178, hx178_0, hl178_0, hi178_0⟩ := at_L6 (Kd.S_reads' HO_6.out).2.2 x10_4 p178 q178
          cases e178
          obtain ⟨ce178, hce178, hMe178, hcc178⟩ := Kd.S_get HO_6.out [] x10_4 p178 (by first | exact q178 | exact oT (by first | (with_reducible assumption) | assumption) | (have e_ := (Kd.S_reads' HO_6.out).1; omega))
          obtain ⟨ve178_0, rfl, ge178_0⟩ := hMe178
          have hv178_0 := hcc178 0 _ rfl
          rw [Nat.add_zero, show ((Kd.slice 4 Kd.bool)).sz = 1 from rfl, Nat.mul_one] at hv178_0
          replace hv178_0 := Option.some.inj (hv178_0.symm.trans hx178_0)
          rw [hv178_0] at ge178_0
          have HL178_0 := AZ.mk (show Kd.R Kd.bool 4 _ _ _ _ (rd_L6 x6_1 x10_4) from ge178_0)
          clear hv178_0 ge178_0
          clear hcc178 hce178
          have HR178_0 := AZ.mk hi178_0
          have HC178_0 := AZ.mk hl178_0
          clear hi178_0 hl178_0
          replace p178 := eq_true p178
          replace q178 := eq_true q178
          have p179 : 0 ≤ ((ji56) : Int) := oT (by first | (with_reducible assumption) | assumption)
          have q179 : (ji56) < ((rd_L6 x6_1 x10_4).length : Int) := oT (by first | (with_reducible assumption) | assumption)
          obtain ⟨ad179, e179, hx179_0⟩ := Kd.at_bool (by repeat (first | (with_reducible exact HR178_0.out) | (with_reducible refine Kd.C_alloc ?_ _) | (with_reducible refine Kd.C_drewN ?_ _) | (with_reducible refine Kd.C_drew ?_) | exact HR178_0.out)) (ji56) p179 q179
          (try rw [← Nbq59.out] at hx179_0)
          (try rw [← Nbq78.out] at hx179_0)
          cases e179
          replace p179 := eq_true p179
          replace q179 := eq_true q179
          have hcz82_0 : wr.cell? ⟨g0_, 0, none⟩ = some (.slice (some ad171) l0_0.length c0_0) := (bc BK0.out 0).trans rfl
          have hfz82_0 := bf BK0.out 0
          have p183 : 0 ≤ (x9_2 : Int) := oT (by first | (with_reducible assumption) | assumption)
          have q183 : x9_2 < (l0_0.length : Int) := oT (by first | (with_reducible assumption) | assumption)
          obtain ⟨ad183, e183, hx183_0, hx183_1⟩ := at_T62 HR0_0.out x9_2 p183 q183
          (try rw [← Nbq59.out] at hx183_0)
          (try rw [← Nbq78.out] at hx183_0)
          obtain rfl : ad171 = ad183 := (by injection e183)
          replace hx183_0 := (HB.out.cell (World.block_lt_of_cell? w _ hx183_0)).trans hx183_0
          replace hx183_1 := (HB.out.cell (World.block_lt_of_cell? w _ hx183_1)).trans hx183_1
          replace p183 := eq_true p183
          replace q183 := eq_true q183
          have p184 : 0 ≤ (x10_4 : Int) := oT (by first | (with_reducible assumption) | assumption)
          have q184 : x10_4 < (t158.length : Int) := oT (by first | (with_reducible assumption) | assumption)
          obtain ⟨ad184, e184, hx184_0⟩ := Kd.at_int (Kd.R_reads' HO_5.out).2.2 x10_4 p184 q184
          obtain rfl : ad177 = ad184 := (by injection e184)
          replace p184 := eq_true p184
          replace q184 := eq_true q184
          go_wp2
          go_roundg k4
          case measure => have := HK1.out; have := HK2.out; have := HJ12.out; have := HK4.out; omega
          case rel => exact ⟨(x8_4), (rd t158 x10_4), (by first | rfl | (simp; done) | (simp [*]; done)), H', ⟨by have := HK1.out; have := HK2.out; have := HJ12.out; have := HK4.out; omega⟩, ⟨by (with_reducible repeat (first | apply Kd.R_alloc | apply Kd.R_drewN | apply Kd.R_drew)); exact HO_5.out⟩, ⟨by (with_reducible repeat (first | apply Kd.S_alloc | apply Kd.S_drewN | apply Kd.S_drew)); exact HO_6.out⟩, ⟨by (with_reducible repeat (first | apply Kd.R_alloc | apply Kd.R_drewN | apply Kd.R_drew)); exact HO_8.out⟩, ⟨by (with_reducible repeat (first | refine bn_ ?_ _ | refine bd_ ?_ | refine ba_ ?_ _)); exact BK0.out⟩, ⟨by repeat (first | (with_reducible first | exact HB.out | apply pA | apply pN | apply pD | refine pS ?_ GE0.out) | exact HB.out)⟩⟩
         subst c60
         have H1 : (if 0 ≤ x9_2 then (if x9_2 < (x8_4.length : Int) then ((some (x8_4.set (x9_2 : Int).toNat true : List Bool)).bind fun y180 => (if x9_2 < (l0_0.length : Int) then (if ((rd_T62 l0_0 x9_2).f0 = true) then (if x10_4 < (t158.length : Int) then (spec_l05Marks.l2 k4 a1 t158 x6_1 x7_1 y180 x9_2 (rd t158 x10_4) l0_0) else (none)) else (spec_l05Marks.l1 k4 a1 t158 x6_1 x7_1 y180 (wrap64 (x9_2 + 1)) l0_0)) else (none))) else (none)) else (none)) = some r := by rw [if_pos rfl] at H; exact H
         clear H
         have H := H1
         clear H1
         by_cases c61 : 0 ≤ x9_2
         rotate_left
         ·rw [if_neg c61] at H
          exact absurd H (by simp)
         rw [if_pos c61] at H
         have c61b0 : decide (0 ≤ x9_2) = true := decide_eq_true c61
         clear c61
         by_cases c62 : x9_2 < (x8_4.length : Int)
         rotate_left
         ·rw [if_neg c62] at H
          exact absurd H (by simp)
         rw [if_pos c62] at H
         have c62b0 : decide (x9_2 < (x8_4.length : Int)) = true := decide_eq_true c62
         clear c62
         obtain ⟨y180, hy180⟩ : ∃ y_ : List Bool, y_ = (x8_4.set (x9_2 : Int).toNat true) := ⟨_, rfl⟩
         replace H : (if x9_2 < (l0_0.length : Int) then (if ((rd_T62 l0_0 x9_2).f0 = true) then (if x10_4 < (t158.length : Int) then (spec_l05Marks.l2 k4 a1 t158 x6_1 x7_1 y180 x9_2 (rd t158 x10_4) l0_0) else (none)) else (spec_l05Marks.l1 k4 a1 t158 x6_1 x7_1 y180 (wrap64 (x9_2 + 1)) l0_0)) else (none)) = some r := by first | (rw [hy180]; with_reducible exact H) | (have H2_ := (Option.bind_some _ _).symm.trans H; rw [hy180]; with_reducible exact H2_) | (have H2_ := (Option.bind_some _ _).symm.trans H; with_reducible exact H2_) | with_reducible exact H | (rw [hy180]; exact H) | exact H
         have Ny180 := AZ.mk hy180
         clear hy180
         by_cases c64 : x9_2 < (l0_0.length : Int)
         rotate_left
         ·rw [if_neg c64] at H
          exact absurd H (by simp)
         rw [if_pos c64] at H
         have c64b0 : decide (x9_2 < (l0_0.length : Int)) = true := decide_eq_true c64
         clear c64
         obtain ⟨bq65, hbq65⟩ : ∃ b_ : Bool, b_ = ((rd_T62 l0_0 x9_2).f0) := ⟨_, rfl⟩
         replace H : (if (bq65 = true) then (if x10_4 < (t158.length : Int) then (spec_l05Marks.l2 k4 a1 t158 x6_1 x7_1 y180 x9_2 (rd t158 x10_4) l0_0) else (none)) else (spec_l05Marks.l1 k4 a1 t158 x6_1 x7_1 y180 (wrap64 (x9_2 + 1)) l0_0)) = some r := by rw [← hbq65] at H; exact H
         have Nbq65 := AZ.mk hbq65
         clear hbq65
         by_cases c66 : (bq65 = true)
         rotate_left
         ·replace c66 := Bool.eq_false_iff.mpr c66
          subst c66
          have H1 : (spec_l05Marks.l1 k4 a1 t158 x6_1 x7_1 y180 (wrap64 (x9_2 + 1)) l0_0) = some r := by rw [if_neg (show ¬ (false = true) by decide)] at H; exact H
          clear H
          have H := H1
          clear H1
          have H' := AZ.mk H
          clear H
          obtain ⟨Ao72, co72, eo72⟩ := Kd.S_slice HO_6.out
          subst eo72
          have p178 : 0 ≤ (x10_4 : Int) := oT (by first | (with_reducible assumption) | assumption)
          have q178 : x10_4 < (x6_1.length : Int) := oT (by first | (with_reducible assumption) | assumption)
          obtain ⟨ad178, A178_0, c178_0, e178, hx178_0, hl178_0, hi178_0⟩ := at_L6 (Kd.S_reads' HO_6.out).2.2 x10_4 p178 q178
          cases e178
          obtain ⟨ce178, hce178, hMe178, hcc178⟩ := Kd.S_get HO_6.out [] x10_4 p178 (by first | exact q178 | exact oT (by first | (with_reducible assumption) | assumption) | (have e_ := (Kd.S_reads' HO_6.out).1; omega))
          obtain ⟨ve178_0, rfl, ge178_0⟩ := hMe178
          have hv178_0 := hcc178 0 _ rfl
          rw [Nat.add_zero, show ((Kd.slice 4 Kd.bool)).sz = 1 from rfl, Nat.mul_one] at hv178_0
          replace hv178_0 := Option.some.inj (hv178_0.symm.trans hx178_0)
          rw [hv178_0] at ge178_0
          have HL178_0 := AZ.mk (show Kd.R Kd.bool 4 _ _ _ _ (rd_L6 x6_1 x10_4) from ge178_0)
          clear hv178_0 ge178_0
          clear hcc178 hce178
          have HR178_0 := AZ.mk hi178_0
          have HC178_0 := AZ.mk hl178_0
          clear hi178_0 hl178_0
          replace p178 := eq_true p178
          replace q178 := eq_true q178
          have p179 : 0 ≤ ((ji56) : Int) := oT (by first | (with_reducible assumption) | assumption)
          have q179 : (ji56) < ((rd_L6 x6_1 x10_4).length : Int) := oT (by first | (with_reducible assumption) | assumption)
          obtain ⟨ad179, e179, hx179_0⟩ := Kd.at_bool (by repeat (first | (with_reducible exact HR178_0.out) | (with_reducible refine Kd.C_alloc ?_ _) | (with_reducible refine Kd.C_drewN ?_ _) | (with_reducible refine Kd.C_drew ?_) | exact HR178_0.out)) (ji56) p179 q179
          (try rw [← Nbq59.out] at hx179_0)
          (try rw [← Nbq65.out] at hx179_0)
          cases e179
          replace p179 := eq_true p179
          replace q179 := eq_true q179
          have p63 : 0 ≤ (x9_2 : Int) := oT (by first | (with_reducible assumption) | assumption)
          have q63 : (x9_2 : Int) < ((x8_4.length : Int) : Int) := oT (by first | (with_reducible assumption) | assumption)
          obtain ⟨go63, co63, eo63, gb63, gl63, cl63, HG63⟩ := Kd.R_form HO_8.out (by omega)
          (first | cases eo63 | (injection eo63 with ea_ en_ ec_; (first | subst ea_ | (injection ea_ with ea_; subst ea_)); subst ec_; clear en_))
          have GB63 := AZ.mk gb63
          have GG63 := AZ.mk HG63
          clear gb63 gl63 HG63
          obtain ⟨hx63_0, hf63_0⟩ := Kd.R_celln false HO_8.out (x9_2 : Int) p63 q63
          replace p63 := eq_true p63
          replace q63 := eq_true q63
          have HP73 := Kd.R_putg HO_8.out (x9_2 : Int) true
          go_wp2_with (first | ((with_reducible refine gate_store (t := 4) (p := 92) rfl ?_); refine store_event (t := 4) (p := 92) (v := ?vo_w74) (w1 := (wr.setCell ⟨go63, (x9_2 : Int).toNat, none⟩ (.bool true))) ?hg ?ho ?hn ?hr ?_; (case ho => rfl); (case hg => rfl); (case hn => rfl); (case hr => first | (go_simp; done) | (go_simp; rfl)); intro w74 hw; have hg : wr.grownBy w74 (some go63) := (by rw [hw]; exact HP73.2); have hp_ : Kd.R Kd.bool 4 w74 w.heap.size (fun _ => True) (.slice (some ⟨go63, 0, none⟩) x8_4.length co63) y180 := (by rw [hw, Ny180.out]; exact HP73.1); clear HP73; have n0_ := AZ.mk (Kd.R_over' (v := (.slice (some ⟨go63, 0, none⟩) x8_4.length co63)) (by (with_reducible repeat (first | apply Kd.R_alloc | apply Kd.R_drewN | apply Kd.R_drew)); exact HO_5.out) (Kd.R_typed HO_8.out) (by decide) hg); have n1_ := AZ.mk (Kd.S_after (v := (.slice (some ⟨go63, 0, none⟩) x8_4.length co63)) (v1 := (.slice (some ⟨go63, 0, none⟩) x8_4.length co63)) (ok := (fun _ => True)) (by (with_reducible repeat (first | apply Kd.S_alloc | apply Kd.S_drewN | apply Kd.S_drew)); exact Kd.S_mono HO_6.out (fun _ hk => ⟨trivial, hk⟩)) hg (.inl rfl)); have n2_ := AZ.mk (hp_); have n3_ := AZ.mk (blk_grown (g := g0_) (o := .cells #[.slice (some ad171) l0_0.length c0_0] 30 (0, 0)) (by (with_reducible repeat (first | refine bn_ ?_ _ | refine bd_ ?_ | refine ba_ ?_ _)); exact BK0.out) hg (Kd.R_ne HO_8.out BK0.out (by decide))); have n4_ := AZ.mk (Kd.R_after (v := (.slice (some ⟨go63, 0, none⟩) x8_4.length co63)) (v1 := (.slice (some ⟨go63, 0, none⟩) x8_4.length co63)) (ok := (fun k_ => some k_ ≠ (.slice (some ad178) x6_1.length co72 : Value).ownBlock)) (by (with_reducible repeat (first | apply Kd.R_alloc | apply Kd.R_drewN | apply Kd.R_drew)); exact Kd.R_mono HL178_0.out (fun _ hk => ⟨hk.2, hk.1⟩)) hg (.inl rfl)); have n5_ := AZ.mk ((by rw [hw]; exact pS (HB.out) GB63.out : Below w.heap.size w w74)); clear HO_5; clear HO_6; clear HO_8; clear BK0; clear HL178_0; clear HB; have HO_5 := n0_; have HO_6 := n1_; have HO_8 := n2_; have BK0 := n3_; have HL178_0 := n4_; have HB := n5_; clear n0_ n1_ n2_ n3_ n4_ n5_; clear hg hw hp_; have hcz75_0 : w74.cell? ⟨g0_, 0, none⟩ = some (.slice (some ad171) l0_0.length c0_0) := (bc BK0.out 0).trans rfl; have hfz75_0 := bf BK0.out 0; have p181 : 0 ≤ (x9_2 : Int) := oT (by first | (with_reducible assumption) | assumption); have q181 : x9_2 < (l0_0.length : Int) := oT (by first | (with_reducible assumption) | assumption); obtain ⟨ad181, e181, hx181_0, hx181_1⟩ := at_T62 HR0_0.out x9_2 p181 q181; (try rw [← Nbq59.out] at hx181_0); (try rw [← Nbq65.out] at hx181_0); obtain rfl : ad171 = ad181 := (by injection e181); replace hx181_0 := (HB.out.cell (World.block_lt_of_cell? w _ hx181_0)).trans hx181_0; replace hx181_1 := (HB.out.cell (World.block_lt_of_cell? w _ hx181_1)).trans hx181_1; replace p181 := eq_true p181; replace q181 := eq_true q181))
          go_roundg k4
          case measure => have := HK1.out; have := HK2.out; have := HJ12.out; have := HK4.out; omega
          case rel => exact ⟨(y180), (wrap64 (x9_2 + 1)), (by first | rfl | (simp; done) | (simp [*]; done)), H', ⟨by have := HK1.out; have := HK2.out; have := HJ12.out; have := HK4.out; omega⟩, ⟨by (with_reducible repeat (first | apply Kd.R_alloc | apply Kd.R_drewN | apply Kd.R_drew)); exact HO_5.out⟩, ⟨by (with_reducible repeat (first | apply Kd.S_alloc | apply Kd.S_drewN | apply Kd.S_drew)); exact Kd.S_mono HO_6.out (fun _ hk => hk.2)⟩, ⟨by (with_reducible repeat (first | apply Kd.R_alloc | apply Kd.R_drewN | apply Kd.R_drew)); exact HO_8.out⟩, ⟨by (with_reducible repeat (first | refine bn_ ?_ _ | refine bd_ ?_ | refine ba_ ?_ _)); exact BK0.out⟩, ⟨by repeat (first | (with_reducible first | exact HB.out | apply pA | apply pN | apply pD | refine pS ?_ GE0.out) | exact HB.out)⟩⟩
         subst c66
         have H1 : (if x10_4 < (t158.length : Int) then (spec_l05Marks.l2 k4 a1 t158 x6_1 x7_1 y180 x9_2 (rd t158 x10_4) l0_0) else (none)) = some r := by rw [if_pos rfl] at H; exact H
         clear H
         have H := H1
         clear H1
         by_cases c67 : x10_4 < (t158.length : Int)
         rotate_left
         ·rw [if_neg c67] at H
          exact absurd H (by simp)
         rw [if_pos c67] at H
         have c67b0 : decide (x10_4 < (t158.length : Int)) = true := decide_eq_true c67
         clear c67
         have H' := AZ.mk H
         clear H
         obtain ⟨Ao68, co68, eo68⟩ := Kd.S_slice HO_6.out
         subst eo68
         have p178 : 0 ≤ (x10_4 : Int) := oT (by first | (with_reducible assumption) | assumption)
         have q178 : x10_4 < (x6_1.length : Int) := oT (by first | (with_reducible assumption) | assumption)
         obtain ⟨ad178, A178_0, c178_0, e178, hx178_0, hl178_0, hi178_0⟩ := at_L6 (Kd.S_reads' HO_6.out).2.2 x10_4 p178 q178
         cases e178
         obtain ⟨ce178, hce178, hMe178, hcc178⟩ := Kd.S_get HO_6.out [] x10_4 p178 (by first | exact q178 | exact oT (by first | (with_reducible assumption) | assumption) | (have e_ := (Kd.S_reads' HO_6.out).1; omega))
         obtain ⟨ve178_0, rfl, ge178_0⟩ := hMe178
         have hv178_0 := hcc178 0 _ rfl
         rw [Nat.add_zero, show ((Kd.slice 4 Kd.bool)).sz = 1 from rfl, Nat.mul_one] at hv178_0
         replace hv178_0 := Option.some.inj (hv178_0.symm.trans hx178_0)
         rw [hv178_0] at ge178_0
         have HL178_0 := AZ.mk (show Kd.R Kd.bool 4 _ _ _ _ (rd_L6 x6_1 x10_4) from ge178_0)
         clear hv178_0 ge178_0
         clear hcc178 hce178
         have HR178_0 := AZ.mk hi178_0
         have HC178_0 := AZ.mk hl178_0
         clear hi178_0 hl178_0
         replace p178 := eq_true p178
         replace q178 := eq_true q178
         have p179 : 0 ≤ ((ji56) : Int) := oT (by first | (with_reducible assumption) | assumption)
         have q179 : (ji56) < ((rd_L6 x6_1 x10_4).length : Int) := oT (by first | (with_reducible assumption) | assumption)
         obtain ⟨ad179, e179, hx179_0⟩ := Kd.at_bool (by repeat (first | (with_reducible exact HR178_0.out) | (with_reducible refine Kd.C_alloc ?_ _) | (with_reducible refine Kd.C_drewN ?_ _) | (with_reducible refine Kd.C_drew ?_) | exact HR178_0.out)) (ji56) p179 q179
         (try rw [← Nbq59.out] at hx179_0)
         (try rw [← Nbq65.out] at hx179_0)
         cases e179
         replace p179 := eq_true p179
         replace q179 := eq_true q179
         have p63 : 0 ≤ (x9_2 : Int) := oT (by first | (with_reducible assumption) | assumption)
         have q63 : (x9_2 : Int) < ((x8_4.length : Int) : Int) := oT (by first | (with_reducible assumption) | assumption)
         obtain ⟨go63, co63, eo63, gb63, gl63, cl63, HG63⟩ := Kd.R_form HO_8.out (by omega)
         (first | cases eo63 | (injection eo63 with ea_ en_ ec_; (first | subst ea_ | (injection ea_ with ea_; subst ea_)); subst ec_; clear en_))
         have GB63 := AZ.mk gb63
         have GG63 := AZ.mk HG63
         clear gb63 gl63 HG63
         obtain ⟨hx63_0, hf63_0⟩ := Kd.R_celln false HO_8.out (x9_2 : Int) p63 q63
         replace p63 := eq_true p63
         replace q63 := eq_true q63
         have HP69 := Kd.R_putg HO_8.out (x9_2 : Int) true
         go_wp2_with (first | ((with_reducible refine gate_store (t := 4) (p := 92) rfl ?_); refine store_event (t := 4) (p := 92) (v := ?vo_w70) (w1 := (wr.setCell ⟨go63, (x9_2 : Int).toNat, none⟩ (.bool true))) ?hg ?ho ?hn ?hr ?_; (case ho => rfl); (case hg => rfl); (case hn => rfl); (case hr => first | (go_simp; done) | (go_simp; rfl)); intro w70 hw; have hg : wr.grownBy w70 (some go63) := (by rw [hw]; exact HP69.2); have hp_ : Kd.R Kd.bool 4 w70 w.heap.size (fun _ => True) (.slice (some ⟨go63, 0, none⟩) x8_4.length co63) y180 := (by rw [hw, Ny180.out]; exact HP69.1); clear HP69; have n0_ := AZ.mk (Kd.R_over' (v := (.slice (some ⟨go63, 0, none⟩) x8_4.length co63)) (by (with_reducible repeat (first | apply Kd.R_alloc | apply Kd.R_drewN | apply Kd.R_drew)); exact HO_5.out) (Kd.R_typed HO_8.out) (by decide) hg); have n1_ := AZ.mk (Kd.S_after (v := (.slice (some ⟨go63, 0, none⟩) x8_4.length co63)) (v1 := (.slice (some ⟨go63, 0, none⟩) x8_4.length co63)) (ok := (fun _ => True)) (by (with_reducible repeat (first | apply Kd.S_alloc | apply Kd.S_drewN | apply Kd.S_drew)); exact Kd.S_mono HO_6.out (fun _ hk => ⟨trivial, hk⟩)) hg (.inl rfl)); have n2_ := AZ.mk (hp_); have n3_ := AZ.mk (blk_grown (g := g0_) (o := .cells #[.slice (some ad171) l0_0.length c0_0] 30 (0, 0)) (by (with_reducible repeat (first | refine bn_ ?_ _ | refine bd_ ?_ | refine ba_ ?_ _)); exact BK0.out) hg (Kd.R_ne HO_8.out BK0.out (by decide))); have n4_ := AZ.mk (Kd.R_after (v := (.slice (some ⟨go63, 0, none⟩) x8_4.length co63)) (v1 := (.slice (some ⟨go63, 0, none⟩) x8_4.length co63)) (ok := (fun k_ => some k_ ≠ (.slice (some ad178) x6_1.length co68 : Value).ownBlock)) (by (with_reducible repeat (first | apply Kd.R_alloc | apply Kd.R_drewN | apply Kd.R_drew)); exact Kd.R_mono HL178_0.out (fun _ hk => ⟨hk.2, hk.1⟩)) hg (.inl rfl)); have n5_ := AZ.mk ((by rw [hw]; exact pS (HB.out) GB63.out : Below w.heap.size w w70)); clear HO_5; clear HO_6; clear HO_8; clear BK0; clear HL178_0; clear HB; have HO_5 := n0_; have HO_6 := n1_; have HO_8 := n2_; have BK0 := n3_; have HL178_0 := n4_; have HB := n5_; clear n0_ n1_ n2_ n3_ n4_ n5_; clear hg hw hp_; have hcz71_0 : w70.cell? ⟨g0_, 0, none⟩ = some (.slice (some ad171) l0_0.length c0_0) := (bc BK0.out 0).trans rfl; have hfz71_0 := bf BK0.out 0; have p181 : 0 ≤ (x9_2 : Int) := oT (by first | (with_reducible assumption) | assumption); have q181 : x9_2 < (l0_0.length : Int) := oT (by first | (with_reducible assumption) | assumption); obtain ⟨ad181, e181, hx181_0, hx181_1⟩ := at_T62 HR0_0.out x9_2 p181 q181; (try rw [← Nbq59.out] at hx181_0); (try rw [← Nbq65.out] at hx181_0); obtain rfl : ad171 = ad181 := (by injection e181); replace hx181_0 := (HB.out.cell (World.block_lt_of_cell? w _ hx181_0)).trans hx181_0; replace hx181_1 := (HB.out.cell (World.block_lt_of_cell? w _ hx181_1)).trans hx181_1; replace p181 := eq_true p181; replace q181 := eq_true q181; have p182 : 0 ≤ (x10_4 : Int) := oT (by first | (with_reducible assumption) | assumption); have q182 : x10_4 < (t158.length : Int) := oT (by first | (with_reducible assumption) | assumption); obtain ⟨ad182, e182, hx182_0⟩ := Kd.at_int (Kd.R_reads' HO_5.out).2.2 x10_4 p182 q182; obtain rfl : ad177 = ad182 := (by injection e182); replace p182 := eq_true p182; replace q182 := eq_true q182))
         go_roundg k4
         case measure => have := HK1.out; have := HK2.out; have := HJ12.out; have := HK4.out; omega
         case rel => exact ⟨(y180), (rd t158 x10_4), (by first | rfl | (simp; done) | (simp [*]; done)), H', ⟨by have := HK1.out; have := HK2.out; have := HJ12.out; have := HK4.out; omega⟩, ⟨by (with_reducible repeat (first | apply Kd.R_alloc | apply Kd.R_drewN | apply Kd.R_drew)); exact HO_5.out⟩, ⟨by (with_reducible repeat (first | apply Kd.S_alloc | apply Kd.S_drewN | apply Kd.S_drew)); exact Kd.S_mono HO_6.out (fun _ hk => hk.2)⟩, ⟨by (with_reducible repeat (first | apply Kd.R_alloc | apply Kd.R_drewN | apply Kd.R_drew)); exact HO_8.out⟩, ⟨by (with_reducible repeat (first | refine bn_ ?_ _ | refine bd_ ?_ | refine ba_ ?_ _)); exact BK0.out⟩, ⟨by repeat (first | (with_reducible first | exact HB.out | apply pA | apply pN | apply pD | refine pS ?_ GE0.out) | exact HB.out)⟩⟩
end Go.Proofs.Yteeplponconnjaa.P
namespace Go.Proofs.Yteeplponconnjaa.P
open Go.RowKit Go.Proofs.YteeplponconnjaaW.PrintWords Go.Proofs.YteeplponconnjaaW.PrintLast Go.Proofs.YteeplponconnjaaW.PrintMore
attribute [local go_sem] max2_int min2_int max_two min_two max_three min_three max_four min_four
set_option linter.unusedVariables false
set_option linter.unusedSimpArgs false
def spec_l05Answers.l0 : Nat → ByteArray → List (List Bool) → List Int → Int → List (S62) → Option (List Int)
 | 0, _, _, _, _, _ => none
 | k + 1, x1, x5, x6, x7, x1000 => if x7 < (x1.size : Int) then (if 0 ≤ x7 then (if x7 < (x5.length : Int) then (if 0 ≤ (wrap64 ((x1000.length : Int) - 1)) then (if (wrap64 ((x1000.length : Int) - 1)) < ((rd_L6 x5 x7).length : Int) then (if rdOf false (rd_L6 x5 x7) (wrap64 ((x1000.length : Int) - 1)) = true then (if x6.length < 17592186044416 then (spec_l05Answers.l0 k x1 x5 (x6 ++ [x7]) (wrap64 (x7 + 1)) x1000) else (none)) else (spec_l05Answers.l0 k x1 x5 x6 (wrap64 (x7 + 1)) x1000)) else (none)) else (none)) else (none)) else (none)) else (some x6)
def spec_l05Answers.f (k : Nat) (l0_0 : List (S62)) (a1 : ByteArray) : Option (List Int) := (spec_l05Marks.f k l0_0 a1).bind fun t185 => (spec_l05Answers.l0 k a1 t185 (([] : List Int)) 0 l0_0)
set_option maxHeartbeats 8000000 in
set_option maxRecDepth 100000 in
theorem spec_l05Answers.calls (k : Nat) (g0_ : Nat) (A0_0 : Option Addr) (c0_0 : Nat) (l0_0 : List (S62)) (a1 : ByteArray) (r : List Int) (w : World) (hr0_0 : Kd.C k62 w A0_0 l0_0.length l0_0) (hc0_0 : l0_0.length ≤ c0_0) (hbk0_0 : w.heap[g0_]? = some (.cells #[.slice A0_0 l0_0.length c0_0] 30 (0, 0))) (h : spec_l05Answers.f k l0_0 a1 = some r) :
  Calls Try.prog 18 #[.pointer (some ⟨g0_, 0, none⟩), .string a1] w fun e w' => ∃ v0_ : Value, e = .returned (v0_) ∧ Kd.R (Kd.int .i64) 2 w' w.heap.size (fun _ => True) v0_ r ∧ Below w.heap.size w w' := by
 have HR0_0 := AZ.mk hr0_0
 have HC0_0 := AZ.mk hc0_0
 clear hr0_0 hc0_0
 have BK0 := AZ.mk hbk0_0
 clear hbk0_0
 have HB := AZ.mk (Below.refl w.heap.size w)
 have H : ((spec_l05Marks.f k l0_0 a1).bind fun t185 => (spec_l05Answers.l0 k a1 t185 (([] : List Int)) 0 l0_0)) = some r := h
 clear h
 replace H := Option.bind_eq_some_iff.mp H
 obtain ⟨t185, A30, H⟩ := H
 replace H : (spec_l05Answers.l0 k a1 t185 (([] : List Int)) 0 l0_0) = some r := H
 have A3 := AZ.mk A30
 clear A30
 obtain ⟨y188, hy188⟩ : ∃ y_ : List Int, y_ = (([] : List Int)) := ⟨_, rfl⟩
 replace H : (spec_l05Answers.l0 k a1 t185 y188 0 l0_0) = some r := by first | (rw [hy188]; with_reducible exact H) | (have H2_ := (Option.bind_some _ _).symm.trans H; rw [hy188]; with_reducible exact H2_) | (have H2_ := (Option.bind_some _ _).symm.trans H; with_reducible exact H2_) | with_reducible exact H | (rw [hy188]; exact H) | exact H
 have Ny188 := AZ.mk hy188
 clear hy188
 have H' := AZ.mk H
 clear H
 go_enter Try.func18, Try.ntmps18
 go_wp2_with (first | (go_at_call 30; (with_reducible refine (spec_l05Marks.calls k g0_ A0_0 c0_0 l0_0 a1 t185 _ ?side1 ?side2 ?side3 A3.out).mono ?_); (case side1 => repeat (first | exact HR0_0.out | (with_reducible refine Kd.C_alloc ?_ _) | (with_reducible refine Kd.C_drewN ?_ _) | (with_reducible refine Kd.C_drew ?_))); (case side2 => exact HC0_0.out); (case side3 => exact (by (with_reducible repeat (first | refine bn_ ?_ _ | refine bd_ ?_ | refine ba_ ?_ _)); exact BK0.out)); rintro e w4 ⟨v186, rfl, ho0, hb⟩; have n0_ := AZ.mk (Kd.S_lower ho0 (pZ (by repeat (first | (with_reducible first | exact HB.out | apply pA | apply pN | apply pD | refine pS ?_ GE0.out) | exact HB.out)))); have n1_ := AZ.mk (bb_ (g := g0_) (o := .cells #[.slice A0_0 l0_0.length c0_0] 30 (0, 0)) (by (with_reducible repeat (first | refine bn_ ?_ _ | refine bd_ ?_ | refine ba_ ?_ _)); exact BK0.out) hb); have n2_ := AZ.mk (pT (by repeat (first | (with_reducible first | exact HB.out | apply pA | apply pN | apply pD | refine pS ?_ GE0.out) | exact HB.out)) hb); clear BK0; clear HB; have HO187 := n0_; have BK0 := n1_; have HB := n2_; clear n0_ n1_ n2_; (try clear hb); (try clear hb2); (try clear hk); (try clear hi); (try clear ho0)) | ((with_reducible refine gate_dst (N := 11) rfl ?_); refine Kd.R_lit (Kd.int .i64) _ 2 ?hg (N := 11) ?hd (xs := ([] : List Int)) (inner := []) (ok := fun _ => True) (okp := fun _ => True) ?hr ?hp (fun _ hk => hk) trivial (Below.refl _ _) (Nat.le_refl _) (by simp) ?_; (case hd => rfl); (case hg => rfl); (case hr => first | (go_simp; done) | (go_simp; rfl)); (case hp => exact (Reps.none _ _)); intro v189 w5 ho6 hb hg_ hnew_; clear hg_ hnew_; (first | rw [← Ny188.out] at ho6 | (simp only [Int.reduceToNat] at ho6; rw [← Ny188.out] at ho6)); have n0_ := AZ.mk (Kd.S_below (by (with_reducible repeat (first | apply Kd.S_alloc | apply Kd.S_drewN | apply Kd.S_drew)); exact HO187.out) hb); have n1_ := AZ.mk (Kd.R_lower ho6 (pZ (by repeat (first | (with_reducible first | exact HB.out | apply pA | apply pN | apply pD | refine pS ?_ GE0.out) | exact HB.out)))); have n2_ := AZ.mk (bb_ (g := g0_) (o := .cells #[.slice A0_0 l0_0.length c0_0] 30 (0, 0)) (by (with_reducible repeat (first | refine bn_ ?_ _ | refine bd_ ?_ | refine ba_ ?_ _)); exact BK0.out) hb); have n3_ := AZ.mk (pT (by repeat (first | (with_reducible first | exact HB.out | apply pA | apply pN | apply pD | refine pS ?_ GE0.out) | exact HB.out)) hb); clear HO187; clear BK0; clear HB; have HO187 := n0_; have HO190 := n1_; have BK0 := n2_; have HB := n3_; clear n0_ n1_ n2_ n3_; clear hb ho6))
 repeat (go_quiet (first | (go_at_call 30; (with_reducible refine (spec_l05Marks.calls k g0_ A0_0 c0_0 l0_0 a1 t185 _ ?side1 ?side2 ?side3 A3.out).mono ?_); (case side1 => repeat (first | exact HR0_0.out | (with_reducible refine Kd.C_alloc ?_ _) | (with_reducible refine Kd.C_drewN ?_ _) | (with_reducible refine Kd.C_drew ?_))); (case side2 => exact HC0_0.out); (case side3 => exact (by (with_reducible repeat (first | refine bn_ ?_ _ | refine bd_ ?_ | refine ba_ ?_ _)); exact BK0.out)); rintro e w4 ⟨v186, rfl, ho0, hb⟩; have n0_ := AZ.mk (Kd.S_lower ho0 (pZ (by repeat (first | (with_reducible first | exact HB.out | apply pA | apply pN | apply pD | refine pS ?_ GE0.out) | exact HB.out)))); have n1_ := AZ.mk (bb_ (g := g0_) (o := .cells #[.slice A0_0 l0_0.length c0_0] 30 (0, 0)) (by (with_reducible repeat (first | refine bn_ ?_ _ | refine bd_ ?_ | refine ba_ ?_ _)); exact BK0.out) hb); have n2_ := AZ.mk (pT (by repeat (first | (with_reducible first | exact HB.out | apply pA | apply pN | apply pD | refine pS ?_ GE0.out) | exact HB.out)) hb); clear BK0; clear HB; have HO187 := n0_; have BK0 := n1_; have HB := n2_; clear n0_ n1_ n2_; (try clear hb); (try clear hb2); (try clear hk); (try clear hi); (try clear ho0)) | ((with_reducible refine gate_dst (N := 11) rfl ?_); refine Kd.R_lit (Kd.int .i64) _ 2 ?hg (N := 11) ?hd (xs := ([] : List Int)) (inner := []) (ok := fun _ => True) (okp := fun _ => True) ?hr ?hp (fun _ hk => hk) trivial (Below.refl _ _) (Nat.le_refl _) (by simp) ?_; (case hd => rfl); (case hg => rfl); (case hr => first | (go_simp; done) | (go_simp; rfl)); (case hp => exact (Reps.none _ _)); intro v189 w5 ho6 hb hg_ hnew_; clear hg_ hnew_; (first | rw [← Ny188.out] at ho6 | (simp only [Int.reduceToNat] at ho6; rw [← Ny188.out] at ho6)); have n0_ := AZ.mk (Kd.S_below (by (with_reducible repeat (first | apply Kd.S_alloc | apply Kd.S_drewN | apply Kd.S_drew)); exact HO187.out) hb); have n1_ := AZ.mk (Kd.R_lower ho6 (pZ (by repeat (first | (with_reducible first | exact HB.out | apply pA | apply pN | apply pD | refine pS ?_ GE0.out) | exact HB.out)))); have n2_ := AZ.mk (bb_ (g := g0_) (o := .cells #[.slice A0_0 l0_0.length c0_0] 30 (0, 0)) (by (with_reducible repeat (first | refine bn_ ?_ _ | refine bd_ ?_ | refine ba_ ?_ _)); exact BK0.out) hb); have n3_ := AZ.mk (pT (by repeat (first | (with_reducible first | exact HB.out | apply pA | apply pN | apply pD | refine pS ?_ GE0.out) | exact HB.out)) hb); clear HO187; clear BK0; clear HB; have HO187 := n0_; have HO190 := n1_; have BK0 := n2_; have HB := n3_; clear n0_ n1_ n2_ n3_; clear hb ho6)); try go_wp2_with (first | (go_at_call 30; (with_reducible refine (spec_l05Marks.calls k g0_ A0_0 c0_0 l0_0 a1 t185 _ ?side1 ?side2 ?side3 A3.out).mono ?_); (case side1 => repeat (first | exact HR0_0.out | (with_reducible refine Kd.C_alloc ?_ _) | (with_reducible refine Kd.C_drewN ?_ _) | (with_reducible refine Kd.C_drew ?_))); (case side2 => exact HC0_0.out); (case side3 => exact (by (with_reducible repeat (first | refine bn_ ?_ _ | refine bd_ ?_ | refine ba_ ?_ _)); exact BK0.out)); rintro e w4 ⟨v186, rfl, ho0, hb⟩; have n0_ := AZ.mk (Kd.S_lower ho0 (pZ (by repeat (first | (with_reducible first | exact HB.out | apply pA | apply pN | apply pD | refine pS ?_ GE0.out) | exact HB.out)))); have n1_ := AZ.mk (bb_ (g := g0_) (o := .cells #[.slice A0_0 l0_0.length c0_0] 30 (0, 0)) (by (with_reducible repeat (first | refine bn_ ?_ _ | refine bd_ ?_ | refine ba_ ?_ _)); exact BK0.out) hb); have n2_ := AZ.mk (pT (by repeat (first | (with_reducible first | exact HB.out | apply pA | apply pN | apply pD | refine pS ?_ GE0.out) | exact HB.out)) hb); clear BK0; clear HB; have HO187 := n0_; have BK0 := n1_; have HB := n2_; clear n0_ n1_ n2_; (try clear hb); (try clear hb2); (try clear hk); (try clear hi); (try clear ho0)) | ((with_reducible refine gate_dst (N := 11) rfl ?_); refine Kd.R_lit (Kd.int .i64) _ 2 ?hg (N := 11) ?hd (xs := ([] : List Int)) (inner := []) (ok := fun _ => True) (okp := fun _ => True) ?hr ?hp (fun _ hk => hk) trivial (Below.refl _ _) (Nat.le_refl _) (by simp) ?_; (case hd => rfl); (case hg => rfl); (case hr => first | (go_simp; done) | (go_simp; rfl)); (case hp => exact (Reps.none _ _)); intro v189 w5 ho6 hb hg_ hnew_; clear hg_ hnew_; (first | rw [← Ny188.out] at ho6 | (simp only [Int.reduceToNat] at ho6; rw [← Ny188.out] at ho6)); have n0_ := AZ.mk (Kd.S_below (by (with_reducible repeat (first | apply Kd.S_alloc | apply Kd.S_drewN | apply Kd.S_drew)); exact HO187.out) hb); have n1_ := AZ.mk (Kd.R_lower ho6 (pZ (by repeat (first | (with_reducible first | exact HB.out | apply pA | apply pN | apply pD | refine pS ?_ GE0.out) | exact HB.out)))); have n2_ := AZ.mk (bb_ (g := g0_) (o := .cells #[.slice A0_0 l0_0.length c0_0] 30 (0, 0)) (by (with_reducible repeat (first | refine bn_ ?_ _ | refine bd_ ?_ | refine ba_ ?_ _)); exact BK0.out) hb); have n3_ := AZ.mk (pT (by repeat (first | (with_reducible first | exact HB.out | apply pA | apply pN | apply pD | refine pS ?_ GE0.out) | exact HB.out)) hb); clear HO187; clear BK0; clear HB; have HO187 := n0_; have HO190 := n1_; have BK0 := n2_; have HB := n3_; clear n0_ n1_ n2_ n3_; clear hb ho6)))
 go_loopg [6, 7] k (fun kq v6 v7 w' => ∃ (x6_1 : List Int) (x7_1 : Int), v7 = .int .i64 x7_1 ∧ AZ (spec_l05Answers.l0 kq a1 t185 x6_1 x7_1 l0_0 = some r) ∧ AZ (kq ≤ k) ∧ AZ (Kd.S (Kd.slice 4 Kd.bool) 61 w' w.heap.size (fun _ => True) v186 t185) ∧ AZ (Kd.R (Kd.int .i64) 2 w' w.heap.size (fun _ => True) v6 x6_1) ∧ AZ (w'.heap[g0_]? = some (.cells #[(.slice A0_0 l0_0.length c0_0)] 30 (0, 0))) ∧ AZ (Below w.heap.size w w'))
 case atStart => exact ⟨(y188), (0), (by first | rfl | (simp; done) | (simp [*]; done)), H', ⟨Nat.le_refl _⟩, ⟨by (with_reducible repeat (first | apply Kd.S_alloc | apply Kd.S_drewN | apply Kd.S_drew)); exact HO187.out⟩, ⟨by (with_reducible repeat (first | apply Kd.R_alloc | apply Kd.R_drewN | apply Kd.R_drew)); exact HO190.out⟩, ⟨by (with_reducible repeat (first | refine bn_ ?_ _ | refine bd_ ?_ | refine ba_ ?_ _)); exact BK0.out⟩, ⟨by repeat (first | (with_reducible first | exact HB.out | apply pA | apply pN | apply pD | refine pS ?_ GE0.out) | exact HB.out)⟩⟩
 case round =>
  clear H'
  try clear c1
  try clear p2
  obtain ⟨x6_1, x7_1, rfl, HA, HK1, HO_5, HO_6, BK0, HB⟩ := hrel
  cases gk with
  | zero => exact absurd HA.out (by simp [spec_l05Answers.l0])
  | succ k1 =>
   have H := HA.out
   clear HA
   simp only [spec_l05Answers.l0] at H
   by_cases c7 : x7_1 < (a1.size : Int)
   rotate_left
   ·rw [if_neg c7] at H
    have c7b0 : decide (x7_1 < (a1.size : Int)) = false := decide_eq_false c7
    clear c7
    obtain rfl := Option.some.inj H
    go_wp2
    repeat (go_quiet (fail); try go_wp2)
    go_ret
    exact ⟨_, by first | rfl | (simp [errW_none, errW_some] <;> rfl) | (simp [*, errW_none, errW_some] <;> rfl), by (with_reducible repeat (first | apply Kd.R_alloc | apply Kd.R_drewN | apply Kd.R_drew)); exact HO_6.out, by repeat (first | (with_reducible first | exact HB.out | apply pA | apply pN | apply pD | refine pS ?_ GE0.out) | exact HB.out)⟩
   rw [if_pos c7] at H
   have c7b0 : decide (x7_1 < (a1.size : Int)) = true := decide_eq_true c7
   clear c7
   by_cases c8 : 0 ≤ x7_1
   rotate_left
   ·rw [if_neg c8] at H
    exact absurd H (by simp)
   rw [if_pos c8] at H
   have c8b0 : decide (0 ≤ x7_1) = true := decide_eq_true c8
   clear c8
   by_cases c9 : x7_1 < (t185.length : Int)
   rotate_left
   ·rw [if_neg c9] at H
    exact absurd H (by simp)
   rw [if_pos c9] at H
   have c9b0 : decide (x7_1 < (t185.length : Int)) = true := decide_eq_true c9
   clear c9
   obtain ⟨ji10, hji10⟩ : ∃ j_ : Int, (wrap64 ((l0_0.length : Int) - 1)) = j_ := ⟨_, rfl⟩
   replace H : (if 0 ≤ (ji10) then (if (ji10) < ((rd_L6 t185 x7_1).length : Int) then (if rdOf false (rd_L6 t185 x7_1) (ji10) = true then (if x6_1.length < 17592186044416 then (spec_l05Answers.l0 k1 a1 t185 (x6_1 ++ [x7_1]) (wrap64 (x7_1 + 1)) l0_0) else (none)) else (spec_l05Answers.l0 k1 a1 t185 x6_1 (wrap64 (x7_1 + 1)) l0_0)) else (none)) else (none)) = some r := by first | (rw [hji10] at H; exact H) | (simp only [hji10] at H ⊢; exact H)
   have hji10w : (IntKind.i64.wrap ((l0_0.length : Int) - 1)) = ji10 := (i64_w _).trans hji10
   by_cases c11 : 0 ≤ (ji10)
   rotate_left
   ·rw [if_neg c11] at H
    exact absurd H (by simp)
   rw [if_pos c11] at H
   have c11b0 : decide (0 ≤ (ji10)) = true := decide_eq_true c11
   clear c11
   by_cases c12 : (ji10) < ((rd_L6 t185 x7_1).length : Int)
   rotate_left
   ·rw [if_neg c12] at H
    exact absurd H (by simp)
   rw [if_pos c12] at H
   have c12b0 : decide ((ji10) < ((rd_L6 t185 x7_1).length : Int)) = true := decide_eq_true c12
   clear c12
   obtain ⟨bq13, hbq13⟩ : ∃ b_ : Bool, b_ = (rdOf false (rd_L6 t185 x7_1) (ji10)) := ⟨_, rfl⟩
   replace H : (if bq13 = true then (if x6_1.length < 17592186044416 then (spec_l05Answers.l0 k1 a1 t185 (x6_1 ++ [x7_1]) (wrap64 (x7_1 + 1)) l0_0) else (none)) else (spec_l05Answers.l0 k1 a1 t185 x6_1 (wrap64 (x7_1 + 1)) l0_0)) = some r := by rw [← hbq13] at H; exact H
   have Nbq13 := AZ.mk hbq13
   clear hbq13
   by_cases c14 : bq13 = true
   rotate_left
   ·replace c14 := Bool.eq_false_iff.mpr c14
    subst c14
    have H1 : (spec_l05Answers.l0 k1 a1 t185 x6_1 (wrap64 (x7_1 + 1)) l0_0) = some r := by rw [if_neg (show ¬ (false = true) by decide)] at H; exact H
    clear H
    have H := H1
    clear H1
    have H' := AZ.mk H
    clear H
    obtain ⟨Ao19, co19, eo19⟩ := Kd.S_slice HO_5.out
    subst eo19
    have p191 : 0 ≤ (x7_1 : Int) := oT (by first | (with_reducible assumption) | assumption)
    have q191 : x7_1 < (t185.length : Int) := oT (by first | (with_reducible assumption) | assumption)
    obtain ⟨ad191, A191_0, c191_0, e191, hx191_0, hl191_0, hi191_0⟩ := at_L6 (Kd.S_reads' HO_5.out).2.2 x7_1 p191 q191
    cases e191
    obtain ⟨ce191, hce191, hMe191, hcc191⟩ := Kd.S_get HO_5.out [] x7_1 p191 (by first | exact q191 | exact oT (by first | (with_reducible assumption) | assumption) | (have e_ := (Kd.S_reads' HO_5.out).1; omega))
    obtain ⟨ve191_0, rfl, ge191_0⟩ := hMe191
    have hv191_0 := hcc191 0 _ rfl
    rw [Nat.add_zero, show ((Kd.slice 4 Kd.bool)).sz = 1 from rfl, Nat.mul_one] at hv191_0
    replace hv191_0 := Option.some.inj (hv191_0.symm.trans hx191_0)
    rw [hv191_0] at ge191_0
    have HL191_0 := AZ.mk (show Kd.R Kd.bool 4 _ _ _ _ (rd_L6 t185 x7_1) from ge191_0)
    clear hv191_0 ge191_0
    clear hcc191 hce191
    have HR191_0 := AZ.mk hi191_0
    have HC191_0 := AZ.mk hl191_0
    clear hi191_0 hl191_0
    replace p191 := eq_true p191
    replace q191 := eq_true q191
    have hcz20_0 : wr.cell? ⟨g0_, 0, none⟩ = some (.slice A0_0 l0_0.length c0_0) := (bc BK0.out 0).trans rfl
    have hfz20_0 := bf BK0.out 0
    have p192 : 0 ≤ ((ji10) : Int) := oT (by first | (with_reducible assumption) | assumption)
    have q192 : (ji10) < ((rd_L6 t185 x7_1).length : Int) := oT (by first | (with_reducible assumption) | assumption)
    obtain ⟨ad192, e192, hx192_0⟩ := Kd.at_bool (by repeat (first | (with_reducible exact HR191_0.out) | (with_reducible refine Kd.C_alloc ?_ _) | (with_reducible refine Kd.C_drewN ?_ _) | (with_reducible refine Kd.C_drew ?_) | exact HR191_0.out)) (ji10) p192 q192
    (try rw [← Nbq13.out] at hx192_0)
    cases e192
    replace p192 := eq_true p192
    replace q192 := eq_true q192
    go_wp2
    repeat (go_quiet (fail); try go_wp2)
    go_roundg k1
    case measure => have := HK1.out; omega
    case rel => exact ⟨(x6_1), (wrap64 (x7_1 + 1)), (by first | rfl | (simp; done) | (simp [*]; done)), H', ⟨by have := HK1.out; omega⟩, ⟨by (with_reducible repeat (first | apply Kd.S_alloc | apply Kd.S_drewN | apply Kd.S_drew)); exact HO_5.out⟩, ⟨by (with_reducible repeat (first | apply Kd.R_alloc | apply Kd.R_drewN | apply Kd.R_drew)); exact HO_6.out⟩, ⟨by (with_reducible repeat (first | refine bn_ ?_ _ | refine bd_ ?_ | refine ba_ ?_ _)); exact BK0.out⟩, ⟨by repeat (first | (with_reducible first | exact HB.out | apply pA | apply pN | apply pD | refine pS ?_ GE0.out) | exact HB.out)⟩⟩
   subst c14
   have H1 : (if x6_1.length < 17592186044416 then (spec_l05Answers.l0 k1 a1 t185 (x6_1 ++ [x7_1]) (wrap64 (x7_1 + 1)) l0_0) else (none)) = some r := by rw [if_pos rfl] at H; exact H
   clear H
   have H := H1
   clear H1
   by_cases c15 : x6_1.length < 17592186044416
   rotate_left
   ·rw [if_neg c15] at H
    exact absurd H (by simp)
   rw [if_pos c15] at H
   have LMc15 := AZ.mk c15
   clear c15
   obtain ⟨y193, hy193⟩ : ∃ y_ : List Int, y_ = (x6_1 ++ [x7_1]) := ⟨_, rfl⟩
   replace H : (spec_l05Answers.l0 k1 a1 t185 y193 (wrap64 (x7_1 + 1)) l0_0) = some r := by first | (rw [hy193]; with_reducible exact H) | (have H2_ := (Option.bind_some _ _).symm.trans H; rw [hy193]; with_reducible exact H2_) | (have H2_ := (Option.bind_some _ _).symm.trans H; with_reducible exact H2_) | with_reducible exact H | (rw [hy193]; exact H) | exact H
   have Ny193 := AZ.mk hy193
   clear hy193
   have H' := AZ.mk H
   clear H
   obtain ⟨Ao16, co16, eo16⟩ := Kd.S_slice HO_5.out
   subst eo16
   have p191 : 0 ≤ (x7_1 : Int) := oT (by first | (with_reducible assumption) | assumption)
   have q191 : x7_1 < (t185.length : Int) := oT (by first | (with_reducible assumption) | assumption)
   obtain ⟨ad191, A191_0, c191_0, e191, hx191_0, hl191_0, hi191_0⟩ := at_L6 (Kd.S_reads' HO_5.out).2.2 x7_1 p191 q191
   cases e191
   obtain ⟨ce191, hce191, hMe191, hcc191⟩ := Kd.S_get HO_5.out [] x7_1 p191 (by first | exact q191 | exact oT (by first | (with_reducible assumption) | assumption) | (have e_ := (Kd.S_reads' HO_5.out).1; omega))
   obtain ⟨ve191_0, rfl, ge191_0⟩ := hMe191
   have hv191_0 := hcc191 0 _ rfl
   rw [Nat.add_zero, show ((Kd.slice 4 Kd.bool)).sz = 1 from rfl, Nat.mul_one] at hv191_0
   replace hv191_0 := Option.some.inj (hv191_0.symm.trans hx191_0)
   rw [hv191_0] at ge191_0
   have HL191_0 := AZ.mk (show Kd.R Kd.bool 4 _ _ _ _ (rd_L6 t185 x7_1) from ge191_0)
   clear hv191_0 ge191_0
   clear hcc191 hce191
   have HR191_0 := AZ.mk hi191_0
   have HC191_0 := AZ.mk hl191_0
   clear hi191_0 hl191_0
   replace p191 := eq_true p191
   replace q191 := eq_true q191
   have hcz17_0 : wr.cell? ⟨g0_, 0, none⟩ = some (.slice A0_0 l0_0.length c0_0) := (bc BK0.out 0).trans rfl
   have hfz17_0 := bf BK0.out 0
   have p192 : 0 ≤ ((ji10) : Int) := oT (by first | (with_reducible assumption) | assumption)
   have q192 : (ji10) < ((rd_L6 t185 x7_1).length : Int) := oT (by first | (with_reducible assumption) | assumption)
   obtain ⟨ad192, e192, hx192_0⟩ := Kd.at_bool (by repeat (first | (with_reducible exact HR191_0.out) | (with_reducible refine Kd.C_alloc ?_ _) | (with_reducible refine Kd.C_drewN ?_ _) | (with_reducible refine Kd.C_drew ?_) | exact HR191_0.out)) (ji10) p192 q192
   (try rw [← Nbq13.out] at hx192_0)
   cases e192
   replace p192 := eq_true p192
   replace q192 := eq_true q192
   go_wp2_with (first | ((with_reducible refine gate_builtin (b := .append) (xs := #[.tmp 30, .tmp 32]) rfl ?_); at_builtin; refine Kd.R_append (Kd.int .i64) (w0 := w) w.heap.size rfl (.tmp 30) (.tmp 32) 34 2 (.int .i64 0) 8 rfl Try.underlying34 info2 rfl (by decide) (by omega) u6 x6_1 x7_1 [.int .i64 x7_1] (fun _ => True) (fun _ => False) rfl rfl ?aP (fun _ hk => hk.elim) ?aF ?aO ?aB ?aS ?aL ?_; (case aP => exact rfl); (case aB => exact (by repeat (first | (with_reducible first | exact HB.out | apply pA | apply pN | apply pD | refine pS ?_ GE0.out) | exact HB.out))); (case aF => exact (fun _ _ => trivial)); (case aO => exact (by (with_reducible repeat (first | apply Kd.R_alloc | apply Kd.R_drewN | apply Kd.R_drew)); exact HO_6.out)); (case aS => exact (pZ (by repeat (first | (with_reducible first | exact HB.out | apply pA | apply pN | apply pD | refine pS ?_ GE0.out) | exact HB.out)))); (case aL => have := LMc15.out; omega); intro v194 w18 ho hb hg hat; rw [← Ny193.out] at ho; have n0_ := AZ.mk (Kd.S_over' (by (with_reducible repeat (first | apply Kd.S_alloc | apply Kd.S_drewN | apply Kd.S_drew)); exact HO_5.out) (Kd.R_typed (by (with_reducible repeat (first | apply Kd.R_alloc | apply Kd.R_drewN | apply Kd.R_drew)); exact HO_6.out)) (by decide) hg); have n1_ := AZ.mk (blk_grown (g := g0_) (o := .cells #[.slice A0_0 l0_0.length c0_0] 30 (0, 0)) (by (with_reducible repeat (first | refine bn_ ?_ _ | refine bd_ ?_ | refine ba_ ?_ _)); exact BK0.out) hg (Kd.R_ne HO_6.out BK0.out (by decide))); have n2_ := AZ.mk (Kd.R_over' (by (with_reducible repeat (first | apply Kd.R_alloc | apply Kd.R_drewN | apply Kd.R_drew)); exact HL191_0.out) (Kd.R_typed (by (with_reducible repeat (first | apply Kd.R_alloc | apply Kd.R_drewN | apply Kd.R_drew)); exact HO_6.out)) (by decide) hg); have n3_ := AZ.mk (hb); have n4_ := AZ.mk (ho); clear HO_5; clear BK0; clear HL191_0; clear HB; clear HO_6; have HO_5 := n0_; have BK0 := n1_; have HL191_0 := n2_; have HB := n3_; have HO195 := n4_; clear n0_ n1_ n2_ n3_ n4_; clear ho hb hg hat))
   repeat (go_quiet (first | ((with_reducible refine gate_builtin (b := .append) (xs := #[.tmp 30, .tmp 32]) rfl ?_); at_builtin; refine Kd.R_append (Kd.int .i64) (w0 := w) w.heap.size rfl (.tmp 30) (.tmp 32) 34 2 (.int .i64 0) 8 rfl Try.underlying34 info2 rfl (by decide) (by omega) u6 x6_1 x7_1 [.int .i64 x7_1] (fun _ => True) (fun _ => False) rfl rfl ?aP (fun _ hk => hk.elim) ?aF ?aO ?aB ?aS ?aL ?_; (case aP => exact rfl); (case aB => exact (by repeat (first | (with_reducible first | exact HB.out | apply pA | apply pN | apply pD | refine pS ?_ GE0.out) | exact HB.out))); (case aF => exact (fun _ _ => trivial)); (case aO => exact (by (with_reducible repeat (first | apply Kd.R_alloc | apply Kd.R_drewN | apply Kd.R_drew)); exact HO_6.out)); (case aS => exact (pZ (by repeat (first | (with_reducible first | exact HB.out | apply pA | apply pN | apply pD | refine pS ?_ GE0.out) | exact HB.out)))); (case aL => have := LMc15.out; omega); intro v194 w18 ho hb hg hat; rw [← Ny193.out] at ho; have n0_ := AZ.mk (Kd.S_over' (by (with_reducible repeat (first | apply Kd.S_alloc | apply Kd.S_drewN | apply Kd.S_drew)); exact HO_5.out) (Kd.R_typed (by (with_reducible repeat (first | apply Kd.R_alloc | apply Kd.R_drewN | apply Kd.R_drew)); exact HO_6.out)) (by decide) hg); have n1_ := AZ.mk (blk_grown (g := g0_) (o := .cells #[.slice A0_0 l0_0.length c0_0] 30 (0, 0)) (by (with_reducible repeat (first | refine bn_ ?_ _ | refine bd_ ?_ | refine ba_ ?_ _)); exact BK0.out) hg (Kd.R_ne HO_6.out BK0.out (by decide))); have n2_ := AZ.mk (Kd.R_over' (by (with_reducible repeat (first | apply Kd.R_alloc | apply Kd.R_drewN | apply Kd.R_drew)); exact HL191_0.out) (Kd.R_typed (by (with_reducible repeat (first | apply Kd.R_alloc | apply Kd.R_drewN | apply Kd.R_drew)); exact HO_6.out)) (by decide) hg); have n3_ := AZ.mk (hb); have n4_ := AZ.mk (ho); clear HO_5; clear BK0; clear HL191_0; clear HB; clear HO_6; have HO_5 := n0_; have BK0 := n1_; have HL191_0 := n2_; have HB := n3_; have HO195 := n4_; clear n0_ n1_ n2_ n3_ n4_; clear ho hb hg hat)); try go_wp2_with (first | ((with_reducible refine gate_builtin (b := .append) (xs := #[.tmp 30, .tmp 32]) rfl ?_); at_builtin; refine Kd.R_append (Kd.int .i64) (w0 := w) w.heap.size rfl (.tmp 30) (.tmp 32) 34 2 (.int .i64 0) 8 rfl Try.underlying34 info2 rfl (by decide) (by omega) u6 x6_1 x7_1 [.int .i64 x7_1] (fun _ => True) (fun _ => False) rfl rfl ?aP (fun _ hk => hk.elim) ?aF ?aO ?aB ?aS ?aL ?_; (case aP => exact rfl); (case aB => exact (by repeat (first | (with_reducible first | exact HB.out | apply pA | apply pN | apply pD | refine pS ?_ GE0.out) | exact HB.out))); (case aF => exact (fun _ _ => trivial)); (case aO => exact (by (with_reducible repeat (first | apply Kd.R_alloc | apply Kd.R_drewN | apply Kd.R_drew)); exact HO_6.out)); (case aS => exact (pZ (by repeat (first | (with_reducible first | exact HB.out | apply pA | apply pN | apply pD | refine pS ?_ GE0.out) | exact HB.out)))); (case aL => have := LMc15.out; omega); intro v194 w18 ho hb hg hat; rw [← Ny193.out] at ho; have n0_ := AZ.mk (Kd.S_over' (by (with_reducible repeat (first | apply Kd.S_alloc | apply Kd.S_drewN | apply Kd.S_drew)); exact HO_5.out) (Kd.R_typed (by (with_reducible repeat (first | apply Kd.R_alloc | apply Kd.R_drewN | apply Kd.R_drew)); exact HO_6.out)) (by decide) hg); have n1_ := AZ.mk (blk_grown (g := g0_) (o := .cells #[.slice A0_0 l0_0.length c0_0] 30 (0, 0)) (by (with_reducible repeat (first | refine bn_ ?_ _ | refine bd_ ?_ | refine ba_ ?_ _)); exact BK0.out) hg (Kd.R_ne HO_6.out BK0.out (by decide))); have n2_ := AZ.mk (Kd.R_over' (by (with_reducible repeat (first | apply Kd.R_alloc | apply Kd.R_drewN | apply Kd.R_drew)); exact HL191_0.out) (Kd.R_typed (by (with_reducible repeat (first | apply Kd.R_alloc | apply Kd.R_drewN | apply Kd.R_drew)); exact HO_6.out)) (by decide) hg); have n3_ := AZ.mk (hb); have n4_ := AZ.mk (ho); clear HO_5; clear BK0; clear HL191_0; clear HB; clear HO_6; have HO_5 := n0_; have BK0 := n1_; have HL191_0 := n2_; have HB := n3_; have HO195 := n4_; clear n0_ n1_ n2_ n3_ n4_; clear ho hb hg hat)))
   go_roundg k1
   case measure => have := HK1.out; omega
   case rel => exact ⟨(y193), (wrap64 (x7_1 + 1)), (by first | rfl | (simp; done) | (simp [*]; done)), H', ⟨by have := HK1.out; omega⟩, ⟨by (with_reducible repeat (first | apply Kd.S_alloc | apply Kd.S_drewN | apply Kd.S_drew)); exact HO_5.out⟩, ⟨by (with_reducible repeat (first | apply Kd.R_alloc | apply Kd.R_drewN | apply Kd.R_drew)); exact HO195.out⟩, ⟨by (with_reducible repeat (first | refine bn_ ?_ _ | refine bd_ ?_ | refine ba_ ?_ _)); exact BK0.out⟩, ⟨by repeat (first | (with_reducible first | exact HB.out | apply pA | apply pN | apply pD | refine pS ?_ GE0.out) | exact HB.out)⟩⟩
end Go.Proofs.Yteeplponconnjaa.P
namespace Go.Proofs.Yteeplponconnjaa.P
open Go.RowKit Go.Proofs.YteeplponconnjaaW.PrintWords Go.Proofs.YteeplponconnjaaW.PrintLast Go.Proofs.YteeplponconnjaaW.PrintMore
attribute [local go_sem] max2_int min2_int max_two min_two max_three min_three max_four min_four
set_option linter.unusedVariables false
set_option linter.unusedSimpArgs false
def spec_AnswersOf.f (k : Nat) (l0_0 : List (S62)) (a1 : ByteArray) : Option (List Int × Int) := (spec_l05Given.f k l0_0 a1).bind fun t306 => (if t306 = 0 then ((spec_l05Answers.f k l0_0 a1).bind fun t307 => (some (t307, 0))) else (some ((([] : List Int)), t306)))
set_option maxHeartbeats 8000000 in
set_option maxRecDepth 100000 in
theorem spec_AnswersOf.calls (k : Nat) (A0_0 : Option Addr) (c0_0 : Nat) (l0_0 : List (S62)) (a1 : ByteArray) (r1 : List Int) (r2 : Int) (w : World) (hr0_0 : Kd.C k62 w A0_0 l0_0.length l0_0) (hc0_0 : l0_0.length ≤ c0_0) (h : spec_AnswersOf.f k l0_0 a1 = some (r1, r2)) :
  Calls Try.prog 10 #[.agg #[.slice A0_0 l0_0.length c0_0], .string a1] w fun e w' => ∃ v0_ : Value, e = .returned (.tuple #[v0_, .int .i64 r2]) ∧ Kd.R (Kd.int .i64) 2 w' w.heap.size (fun _ => True) v0_ r1 ∧ Below w.heap.size w w' := by
 have hu30 := Try.underlying30
 have HR0_0 := AZ.mk hr0_0
 have HC0_0 := AZ.mk hc0_0
 clear hr0_0 hc0_0
 have HB := AZ.mk (Below.refl w.heap.size w)
 have H : ((spec_l05Given.f k l0_0 a1).bind fun t306 => (if t306 = 0 then ((spec_l05Answers.f k l0_0 a1).bind fun t307 => (some (t307, 0))) else (some ((([] : List Int)), t306)))) = some (r1, r2) := h
 clear h
 replace H := Option.bind_eq_some_iff.mp H
 obtain ⟨t306, A30, H⟩ := H
 replace H : (if t306 = 0 then ((spec_l05Answers.f k l0_0 a1).bind fun t307 => (some (t307, 0))) else (some ((([] : List Int)), t306))) = some (r1, r2) := H
 have A3 := AZ.mk A30
 clear A30
 by_cases c4 : t306 = 0
 rotate_left
 ·rw [if_neg c4] at H
  have c4b0 : (t306 == 0) = false := beq_eq_false_iff_ne.mpr c4
  have c4b1 : (t306 != 0) = true := bne_iff_ne.mpr c4
  obtain ⟨y310, hy310⟩ : ∃ y_ : List Int, y_ = (([] : List Int)) := ⟨_, rfl⟩
  replace H : (some (y310, t306)) = some (r1, r2) := by first | (rw [hy310]; with_reducible exact H) | (have H2_ := (Option.bind_some _ _).symm.trans H; rw [hy310]; with_reducible exact H2_) | (have H2_ := (Option.bind_some _ _).symm.trans H; with_reducible exact H2_) | with_reducible exact H | (rw [hy310]; exact H) | exact H
  have Ny310 := AZ.mk hy310
  clear hy310
  simp only [Option.some.injEq, Prod.mk.injEq] at H
  obtain ⟨rfl, rfl⟩ := H
  go_enter Try.func10, Try.ntmps10
  go_wp2_with (first | ((with_reducible refine gate_dst (N := 2) rfl ?_); refine box_event ?hg (N := 2) ?hd (cs := #[.slice A0_0 l0_0.length c0_0]) (t := 30) ?hr ?_; (case hd => rfl); (case hg => rfl); (case hr => first | (go_simp; done) | (go_simp; rfl)); intro gb305 hg w8 hbox hb; have n0_ := AZ.mk (pT (by repeat (first | (with_reducible first | exact HB.out | apply pA | apply pN | apply pD) | exact HB.out)) hb); have n1_ := AZ.mk (hbox); have n2_ := AZ.mk ((by rw [hg]; exact (pZ (by repeat (first | (with_reducible first | exact HB.out | apply pA | apply pN | apply pD) | exact HB.out))) : w.heap.size ≤ gb305)); have n3_ := AZ.mk ((by rw [hg]; exact (pZ (by repeat (first | (with_reducible first | exact HB.out | apply pA | apply pN | apply pD) | exact HB.out))) : w.heap.size ≤ gb305)); clear HB; have HB := n0_; have BK305 := n1_; have GW305 := n2_; have GE305 := n3_; clear n0_ n1_ n2_ n3_; clear hb hbox hg) | ((with_reducible refine gate_callee (f := 17) rfl ?_); refine goesL_ (some 8) rfl rfl Try.func17 (by kernel_rfl) rfl #[.pointer (some ⟨gb305, 0, none⟩), .string a1] rfl (by (try simp only [List.map_toArray, List.map_cons, List.map_nil]); first | done | rfl | (simp only [List.length_drop, List.length_take]; rfl)) ?_; (with_reducible refine (spec_l05Given.calls k gb305 A0_0 c0_0 l0_0 a1 t306 _ ?side1 ?side2 ?side3 A3.out).mono ?_); (case side1 => repeat (first | exact (Kd.C_below HR0_0.out HB.out) | (with_reducible refine Kd.C_alloc ?_ _) | (with_reducible refine Kd.C_drewN ?_ _) | (with_reducible refine Kd.C_drew ?_))); (case side2 => exact HC0_0.out); (case side3 => exact (by (with_reducible repeat (first | refine bn_ ?_ _ | refine bd_ ?_ | refine ba_ ?_ _)); exact BK305.out)); rintro e w' ⟨rfl, ⟨nd, rfl⟩⟩; refine ⟨_, rfl, ?_⟩) | ((with_reducible refine gate_dst (N := 11) rfl ?_); refine Kd.R_lit (Kd.int .i64) _ 2 ?hg (N := 11) ?hd (xs := ([] : List Int)) (inner := []) (ok := fun _ => True) (okp := fun _ => True) ?hr ?hp (fun _ hk => hk) trivial (Below.refl _ _) (Nat.le_refl _) (by simp) ?_; (case hd => rfl); (case hg => rfl); (case hr => first | (go_simp; done) | (go_simp; rfl)); (case hp => exact (Reps.none _ _)); intro v311 w9 ho10 hb hg_ hnew_; clear hg_ hnew_; (first | rw [← Ny310.out] at ho10 | (simp only [Int.reduceToNat] at ho10; rw [← Ny310.out] at ho10)); have n0_ := AZ.mk (Kd.R_lower ho10 (pZ (by repeat (first | (with_reducible first | exact HB.out | apply pA | apply pN | apply pD | refine pS ?_ GE305.out) | exact HB.out)))); have n1_ := AZ.mk (bb_ (g := gb305) (o := .cells #[.slice A0_0 l0_0.length c0_0] 30 (0, 0)) (by (with_reducible repeat (first | refine bn_ ?_ _ | refine bd_ ?_ | refine ba_ ?_ _)); exact BK305.out) hb); have n2_ := AZ.mk (pT (by repeat (first | (with_reducible first | exact HB.out | apply pA | apply pN | apply pD | refine pS ?_ GE305.out) | exact HB.out)) hb); clear BK305; clear HB; have HO312 := n0_; have BK305 := n1_; have HB := n2_; clear n0_ n1_ n2_; clear hb ho10))
  go_ret2
  exact ⟨_, by first | rfl | (simp [errW_none, errW_some] <;> rfl) | (simp [*, errW_none, errW_some] <;> rfl), by (with_reducible repeat (first | apply Kd.R_alloc | apply Kd.R_drewN | apply Kd.R_drew)); exact HO312.out, by repeat (first | (with_reducible first | exact HB.out | apply pA | apply pN | apply pD | refine pS ?_ GE305.out) | exact HB.out)⟩
 rw [if_pos c4] at H
 have c4b0 : (t306 == 0) = true := beq_iff_eq.mpr c4
 have c4b1 : (t306 != 0) = false := bne_eq_false_iff_eq.mpr c4
 clear c4
 replace H := Option.bind_eq_some_iff.mp H
 obtain ⟨t307, A50, H⟩ := H
 replace H : (some (t307, 0)) = some (r1, r2) := H
 have A5 := AZ.mk A50
 clear A50
 simp only [Option.some.injEq, Prod.mk.injEq] at H
 obtain ⟨rfl, rfl⟩ := H
 go_enter Try.func10, Try.ntmps10
 go_wp2_with (first | ((with_reducible refine gate_dst (N := 2) rfl ?_); refine box_event ?hg (N := 2) ?hd (cs := #[.slice A0_0 l0_0.length c0_0]) (t := 30) ?hr ?_; (case hd => rfl); (case hg => rfl); (case hr => first | (go_simp; done) | (go_simp; rfl)); intro gb305 hg w6 hbox hb; have n0_ := AZ.mk (pT (by repeat (first | (with_reducible first | exact HB.out | apply pA | apply pN | apply pD) | exact HB.out)) hb); have n1_ := AZ.mk (hbox); have n2_ := AZ.mk ((by rw [hg]; exact (pZ (by repeat (first | (with_reducible first | exact HB.out | apply pA | apply pN | apply pD) | exact HB.out))) : w.heap.size ≤ gb305)); have n3_ := AZ.mk ((by rw [hg]; exact (pZ (by repeat (first | (with_reducible first | exact HB.out | apply pA | apply pN | apply pD) | exact HB.out))) : w.heap.size ≤ gb305)); clear HB; have HB := n0_; have BK305 := n1_; have GW305 := n2_; have GE305 := n3_; clear n0_ n1_ n2_ n3_; clear hb hbox hg) | ((with_reducible refine gate_callee (f := 17) rfl ?_); refine goesL_ (some 8) rfl rfl Try.func17 (by kernel_rfl) rfl #[.pointer (some ⟨gb305, 0, none⟩), .string a1] rfl (by (try simp only [List.map_toArray, List.map_cons, List.map_nil]); first | done | rfl | (simp only [List.length_drop, List.length_take]; rfl)) ?_; (with_reducible refine (spec_l05Given.calls k gb305 A0_0 c0_0 l0_0 a1 t306 _ ?side1 ?side2 ?side3 A3.out).mono ?_); (case side1 => repeat (first | exact (Kd.C_below HR0_0.out HB.out) | (with_reducible refine Kd.C_alloc ?_ _) | (with_reducible refine Kd.C_drewN ?_ _) | (with_reducible refine Kd.C_drew ?_))); (case side2 => exact HC0_0.out); (case side3 => exact (by (with_reducible repeat (first | refine bn_ ?_ _ | refine bd_ ?_ | refine ba_ ?_ _)); exact BK305.out)); rintro e w' ⟨rfl, ⟨nd, rfl⟩⟩; refine ⟨_, rfl, ?_⟩) | ((with_reducible refine gate_callee (f := 18) rfl ?_); refine goesL_ (some 14) rfl rfl Try.func18 (by kernel_rfl) rfl #[.pointer (some ⟨gb305, 0, none⟩), .string a1] rfl (by (try simp only [List.map_toArray, List.map_cons, List.map_nil]); first | done | rfl | (simp only [List.length_drop, List.length_take]; rfl)) ?_; (with_reducible refine (spec_l05Answers.calls k gb305 A0_0 c0_0 l0_0 a1 t307 _ ?side1 ?side2 ?side3 A5.out).mono ?_); (case side1 => repeat (first | exact (Kd.C_below HR0_0.out (by repeat (first | (with_reducible first | exact HB.out | apply pA | apply pN | apply pD | refine pS ?_ GE305.out) | exact HB.out))) | (with_reducible refine Kd.C_alloc ?_ _) | (with_reducible refine Kd.C_drewN ?_ _) | (with_reducible refine Kd.C_drew ?_))); (case side2 => exact HC0_0.out); (case side3 => exact (by (with_reducible repeat (first | refine bn_ ?_ _ | refine bd_ ?_ | refine ba_ ?_ _)); exact BK305.out)); rintro e w7 ⟨v308, rfl, ho0, hb⟩; refine ⟨_, rfl, ?_⟩; have n0_ := AZ.mk (Kd.R_lower ho0 (pZ (by repeat (first | (with_reducible first | exact HB.out | apply pA | apply pN | apply pD | refine pS ?_ GE305.out) | exact HB.out)))); have n1_ := AZ.mk (bb_ (g := gb305) (o := .cells #[.slice A0_0 l0_0.length c0_0] 30 (0, 0)) (by (with_reducible repeat (first | refine bn_ ?_ _ | refine bd_ ?_ | refine ba_ ?_ _)); exact BK305.out) hb); have n2_ := AZ.mk (pT (by repeat (first | (with_reducible first | exact HB.out | apply pA | apply pN | apply pD | refine pS ?_ GE305.out) | exact HB.out)) hb); clear BK305; clear HB; have HO309 := n0_; have BK305 := n1_; have HB := n2_; clear n0_ n1_ n2_; (try clear hb); (try clear hb2); (try clear hk); (try clear hi); (try clear ho0)))
 go_ret2
 exact ⟨_, by first | rfl | (simp [errW_none, errW_some] <;> rfl) | (simp [*, errW_none, errW_some] <;> rfl), by (with_reducible repeat (first | apply Kd.R_alloc | apply Kd.R_drewN | apply Kd.R_drew)); exact HO309.out, by repeat (first | (with_reducible first | exact HB.out | apply pA | apply pN | apply pD | refine pS ?_ GE305.out) | exact HB.out)⟩
end Go.Proofs.Yteeplponconnjaa.P
