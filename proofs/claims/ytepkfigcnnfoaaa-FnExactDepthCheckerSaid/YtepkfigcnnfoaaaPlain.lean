/- l02Plain: a state is added to a checker through a pointer. Written by a program of this session (mkplain.py). -/
import Derived.Test.YtepkfigcnnfoaaaSmallPx
import Derived.Test.YtepkfigcnnfoaaaDeep3
import Derived.Test.YtepkfigcnnfoaaaLawD
namespace Go.Proofs.Ytepkfigcnnfoaaa.P
open Go.RowKit Go.Proofs.YtepkfigcnnfoaaaW.PrintWords Go.Proofs.YtepkfigcnnfoaaaW.PrintLast Go.Proofs.YtepkfigcnnfoaaaW.PrintMore Go.Proofs.Ytepkfigcnnfoaaa.Deep
set_option linter.unusedVariables false
set_option linter.unusedSimpArgs false
theorem same_l (a n : Int) (hn : n ≤ 1000) : ∀ (d : Nat) (i : Int) (k : Nat) (l : List Int), 0 ≤ i → i + d = n → d < k → l.length ≤ 1000000 - d → spec_l02Same.l0 k a n l i = some (l ++ List.replicate d a)
  | _, _, 0, _, _, _, hk, _ => by omega
  | 0, i, k + 1, l, h0, hi, _, _ => by
    simp only [spec_l02Same.l0, if_neg (show ¬ i < n by omega)]
    simp
  | d + 1, i, k + 1, l, h0, hi, hk, hl => by
    have hnext := same_l a n hn d (i + 1) k (l ++ [a]) (by omega) (by omega) (by omega) (by simp; omega)
    simp only [spec_l02Same.l0, if_pos (show i < n by omega), if_pos (show l.length < 17592186044416 by omega), bw' (i + 1) (by omega) (by omega), Option.bind_some, hnext]
    simp [List.replicate_succ]
theorem same_f (a m : Int) (h : 0 ≤ m ∧ m ≤ 900) : spec_l02Same.f 2000 a (wrap64 (m + 1)) = some (List.replicate (m + 1).toNat a) := by
  rw [bw' _ (by omega) (by omega)]
  have := same_l a (m + 1) (by omega) (m + 1).toNat 0 2000 [] (by omega) (by omega) (by omega) (by simp only [List.length_nil]; omega)
  simpa [spec_l02Same.f] using this
def plain.T1 : Bool × List (List Nat × List Nat) := (true, [([], []), ([], []), ([1], [1]), ([2], [2]), ([3], [3]), ([], []), ([5], [5]), ([6], [6]), ([7], [7]), ([], []), ([9], [9]), ([10], [10]), ([11], [11]), ([8, 12], [8, 12]), ([13], [13]), ([4, 14], [4, 14]), ([0, 0, 1, 2, 3, 4, 5, 6, 7, 8, 9, 10, 11, 12, 13, 14, 15], [0]), ([16, 0, 1, 2, 3, 4, 5, 6, 7, 8, 9, 10, 11, 12, 13, 14, 15], [16]), ([17, 15, 15, 0, 1, 2, 3, 4, 5, 6, 7, 8, 9, 10, 11, 12, 13, 14, 15], [15, 17])])
def plain.B1 : List Nat := [0, 0, 2, 6, 14, 0, 32, 96, 224, 0, 512, 1536, 3584, 8160, 16352, 32766, 65535, 131071, 262143]
theorem plain.tab1 : rtab .any (opsOf Try.f52 1) = plain.T1 := by kernel_rfl
theorem plain.bits1 : waitsOk plain.T1.2 plain.B1 = true := by kernel_rfl
def plain.T2 : Bool × List (List Nat × List Nat) := (true, [([], []), ([], []), ([1], [1]), ([2], [2]), ([3], [3]), ([], []), ([5], [5]), ([6], [6]), ([], []), ([8], [8]), ([9], [9]), ([10], [10]), ([11], [11]), ([7, 12], [7, 12]), ([], []), ([14], [14]), ([15], [15]), ([], []), ([17], [17]), ([18], [18]), ([19], [19]), ([20], [20]), ([16, 21, 13], [16, 21]), ([13, 22], [13, 22]), ([23], [23]), ([4, 24, 22], [4, 24]), ([0, 0, 1, 2, 3, 4, 5, 6, 7, 8, 9, 10, 11, 12, 13, 14, 15, 16, 17, 18, 19, 20, 21, 22, 23, 24, 25], [0]), ([26, 0, 1, 2, 3, 4, 5, 6, 7, 8, 9, 10, 11, 12, 13, 14, 15, 16, 17, 18, 19, 20, 21, 22, 23, 24, 25], [26]), ([27, 25, 25, 0, 1, 2, 3, 4, 5, 6, 7, 8, 9, 10, 11, 12, 13, 14, 15, 16, 17, 18, 19, 20, 21, 22, 23, 24, 25], [25, 27])])
def plain.B2 : List Nat := [0, 0, 2, 6, 14, 0, 32, 96, 0, 256, 768, 1792, 3840, 8160, 0, 16384, 49152, 0, 131072, 393216, 917504, 1966080, 4194272, 8388576, 16777184, 33554430, 67108863, 134217727, 268435455]
theorem plain.tab2 : rtab .any (opsOf Try.f52 2) = plain.T2 := by kernel_rfl
theorem plain.bits2 : waitsOk plain.T2.2 plain.B2 = true := by kernel_rfl
def plain.T3 : Bool × List (List Nat × List Nat) := (true, [([], []), ([], []), ([1], [1]), ([2], [2]), ([3], [3]), ([], []), ([5], [5]), ([6], [6]), ([], []), ([8], [8]), ([9], [9]), ([7, 10], [7, 10]), ([11], [11]), ([4, 12], [4, 12]), ([0, 0, 1, 2, 3, 4, 5, 6, 7, 8, 9, 10, 11, 12, 13], [0]), ([14, 0, 1, 2, 3, 4, 5, 6, 7, 8, 9, 10, 11, 12, 13], [14]), ([15, 13, 13, 0, 1, 2, 3, 4, 5, 6, 7, 8, 9, 10, 11, 12, 13], [13, 15])])
def plain.B3 : List Nat := [0, 0, 2, 6, 14, 0, 32, 96, 0, 256, 768, 2016, 4064, 8190, 16383, 32767, 65535]
theorem plain.tab3 : rtab .any (opsOf Try.f52 3) = plain.T3 := by kernel_rfl
theorem plain.bits3 : waitsOk plain.T3.2 plain.B3 = true := by kernel_rfl
set_option maxHeartbeats 4000000 in
set_option maxRecDepth 100000 in
theorem plain_calls (w0 w : World) (gC gZ gT : Nat) (cZ' csT : Array Value) (cT : Nat) (m st : Int) (vA vC vR vI : Value) (LA : List Bool) (LC : List (List S47)) (LR : List (List (List Int))) (LI : List (List Int)) (ac : Bool) (t0 t1 t2 t3 t4 t5 : Int)
    (hA : AllB w0 w gC gZ (cellsI m st vA vC vR vI) cZ' vA vC vR vI nilV nilV nilV nilV LA LC LR LI [] [] [] []) (hT : w.heap[gT]? = some (.cells csT 2 (0, 0)))
    (h0 : csT[0]? = some (.int .i64 t0)) (h1 : csT[1]? = some (.int .i64 t1)) (h2 : csT[2]? = some (.int .i64 t2)) (h3 : csT[3]? = some (.int .i64 t3)) (h4 : csT[4]? = some (.int .i64 t4)) (h5 : csT[5]? = some (.int .i64 t5))
    (hm : 0 ≤ m ∧ m ≤ 900) (lA : LA.length ≤ 1000000) (lC : LC.length ≤ 1000000) (lR : LR.length ≤ 1000000) (lI : LI.length ≤ 1000000) :
    Calls Try.prog 52 #[.pointer (some ⟨gC, 0, none⟩), .bool ac, .slice (some ⟨gT, 0, none⟩) 6 cT] w fun e w' => ∃ vA' vC' vR' vI' : Value, e = .returned (.tuple #[]) ∧ AllB w0 w' gC gZ (cellsI m st vA' vC' vR' vI') cZ' vA' vC' vR' vI' nilV nilV nilV nilV (LA ++ [ac]) (LC ++ [[⟨t0, 0⟩, ⟨t1, 0⟩]]) (LR ++ [[List.replicate (m + 1).toNat t2, List.replicate (m + 1).toNat t3]]) (LI ++ [[t4, t5]]) [] [] [] [] := by
  have NT := Aside0.mk (show gT ≠ gC by rintro rfl; rw [All.boxC hA] at hT; injection hT with hT; injection hT with _ h_ _; exact absurd h_ (by decide))
  have HT0 := Aside0.mk h0
  have HT1 := Aside0.mk h1
  have HT2 := Aside0.mk h2
  have HT3 := Aside0.mk h3
  have HT4 := Aside0.mk h4
  have HT5 := Aside0.mk h5
  have HM := Aside0.mk hm
  have HLA := Aside0.mk lA
  have HLC := Aside0.mk lC
  have HLR := Aside0.mk lR
  have HLI := Aside0.mk lI
  have HO := Aside0.mk hA
  have BT := Aside0.mk hT
  have hc2 : w.cell? ⟨gC, 2, none⟩ = some vA := (blk_cell (All.boxC HO.out) 2).trans rfl
  clear hA hT h0 h1 h2 h3 h4 h5 hm lA lC lR lI
  go_enter Try.func52, Try.ntmps52
  go_wp2_with ((with_reducible refine gate_builtin (b := .append) (xs := #[.tmp 10, .tmp 12]) rfl ?_); at_builtin; refine wpList_at ?_; refine All.app_A bap (All.alloc HO.out _) (by rfl) (.tmp 10) (.tmp 12) 22 ac rfl Try.underlying22 bi4 rfl w.heap.size rfl (heap_alloc_new w _) (by have := HLA.out; omega) ?_; intro v13 w13 ho hfar; have n0_ := Aside0.mk (hfar _ _ _ (blk_alloc BT.out _) (by decide)); obtain ⟨A13, n13, c13, hr_⟩ := (shapes ho).2.2.2.2.1; subst hr_; clear HO BT hc2 hfar; have BT := n0_; have HO := Aside0.mk ho; clear n0_ ho; have hc2 : w13.cell? ⟨gC, 2, none⟩ = some vA := (blk_cell (All.boxC HO.out) 2).trans rfl; have hf2 := blk_frozen (All.boxC HO.out) 2)
  have n0_ := Aside0.mk (show AllB w0 (w13.setCell ⟨gC, 2, none⟩ (.slice A13 n13 c13)) gC gZ (cellsI m st (.slice A13 n13 c13) vC vR vI) cZ' (.slice A13 n13 c13) vC vR vI nilV nilV nilV nilV (LA ++ [ac]) LC LR LI [] [] [] [] from All.set bap HO.out 2 _)
  have n1_ := Aside0.mk ((Below.heap_setCell w13 ⟨gC, 2, none⟩ (.slice A13 n13 c13) _ NT.out).trans BT.out)
  clear HO BT hc2 hf2
  have HO := n0_
  have BT := n1_
  clear n0_ n1_
  generalize World.setCell _ _ _ = w14 at HO BT ⊢
  refine start_ (n := 19) (S := fun w' => True) (ds := []) #[false, false, false, false, false, false, false, false, false, false, false, false, false, false, false, false, false, false, false] (by kernel_rfl) rfl rfl trivial (fun hHeld => ?_)
  refine with_tabW plain.tab1 plain.bits1 (fun HT_ HW_ => ?_)
  have ALL0 := Aside0.mk (All.drew HO.out)
  have BX := Aside0.mk (All.boxC ALL0.out)
  have n_ := Aside0.mk (blk_drew BT.out)
  clear HO BT
  have BT := n_
  clear n_
  generalize World.drew _ = wD at ALL0 BX BT hHeld ⊢
  refine pure_ (i := 0) (N := some 16) (v := ?_) (a' := ?_) #[true, false, false, false, false, false, false, false, false, false, false, false, false, false, false, false, false, false, false] rfl rfl (any_of HT_.out (by kernel_rfl)) (fun _ _ _ h => h) (Or.inl ⟨by rfl, ?_⟩) ?_ ?_
  rotate_left
  · intro w'
    go_simp
    with_reducible rfl
  rotate_left
  · simp only [Act.put, List.setIfInBounds_toArray, List.set_cons_zero, List.set_cons_succ, i64_w, i32_w]
    rfl
  refine pure_ (i := 1) (N := some 17) (v := ?_) (a' := ?_) #[true, true, false, false, false, false, false, false, false, false, false, false, false, false, false, false, false, false, false] rfl rfl (any_of HT_.out (by kernel_rfl)) (fun _ _ _ h => h) (Or.inl ⟨by rfl, ?_⟩) ?_ ?_
  rotate_left
  · intro w'
    go_simp
    with_reducible rfl
  rotate_left
  · simp only [Act.put, List.setIfInBounds_toArray, List.set_cons_zero, List.set_cons_succ, i64_w, i32_w]
    rfl
  refine pure_ (i := 2) (N := some 18) (v := ?_) (a' := ?_) #[true, true, true, false, false, false, false, false, false, false, false, false, false, false, false, false, false, false, false] rfl rfl (any_of HT_.out (by kernel_rfl)) (fun _ _ _ h => h) (Or.inl ⟨by rfl, ?_⟩) ?_ ?_
  rotate_left
  · intro w'
    go_simp
    with_reducible rfl
  rotate_left
  · simp only [Act.put, List.setIfInBounds_toArray, List.set_cons_zero, List.set_cons_succ, i64_w, i32_w]
    rfl
  refine pure_ (i := 3) (N := some 19) (v := ?_) (a' := ?_) #[true, true, true, true, false, false, false, false, false, false, false, false, false, false, false, false, false, false, false] rfl rfl (any_of HT_.out (by kernel_rfl)) (fun _ _ _ h => h) (Or.inl ⟨by rfl, ?_⟩) ?_ ?_
  rotate_left
  · intro w'
    go_simp
    with_reducible rfl
  rotate_left
  · simp only [Act.put, List.setIfInBounds_toArray, List.set_cons_zero, List.set_cons_succ, i64_w, i32_w]
    rfl
  refine pure_ (i := 5) (N := some 21) (v := ?_) (a' := ?_) #[true, true, true, true, false, true, false, false, false, false, false, false, false, false, false, false, false, false, false] rfl rfl (any_of HT_.out (by kernel_rfl)) (fun _ _ _ h => h) (Or.inl ⟨by rfl, ?_⟩) ?_ ?_
  rotate_left
  · intro w'
    go_simp
    with_reducible rfl
  rotate_left
  · simp only [Act.put, List.setIfInBounds_toArray, List.set_cons_zero, List.set_cons_succ, i64_w, i32_w]
    rfl
  refine pure_ (i := 9) (N := some 25) (v := ?_) (a' := ?_) #[true, true, true, true, false, true, false, false, false, true, false, false, false, false, false, false, false, false, false] rfl rfl (any_of HT_.out (by kernel_rfl)) (fun _ _ _ h => h) (Or.inl ⟨by rfl, ?_⟩) ?_ ?_
  rotate_left
  · intro w'
    go_simp
    with_reducible rfl
  rotate_left
  · simp only [Act.put, List.setIfInBounds_toArray, List.set_cons_zero, List.set_cons_succ, i64_w, i32_w]
    rfl
  refine inv_at [4, 6, 7, 8, 10, 11, 12, 13, 14, 15, 16, 17, 18] (fun a0_ b a w' => ∃ (r13 : Value) (r15 : Value) (b14 : Value), a = putSel a0_ b [(4, 20, vC), (6, 22, .pointer (some ⟨gT, 0, none⟩)), (7, 23, .int .i64 t0), (8, 24, .agg #[.int .i64 t0, .int .i64 0]), (10, 26, .pointer (some ⟨gT, 1, none⟩)), (11, 27, .int .i64 t1), (12, 28, .agg #[.int .i64 t1, .int .i64 0]), (13, 29, r13), (14, 30, b14), (15, 31, r15), (16, 32, .pointer (some ⟨gC, 0, none⟩)), (17, 33, .pointer (some ⟨gC, 3, none⟩))] ∧ (b 13 = false → AllB w0 w' gC gZ (cellsI m st (.slice A13 n13 c13) vC vR vI) cZ' (.slice A13 n13 c13) vC vR vI (.slice none 0 0) (.slice none 0 0) (.slice none 0 0) (.slice none 0 0) (LA ++ [ac]) LC LR LI [] [] [] []) ∧ (b 13 = true → b 15 = false → AllB w0 w' gC gZ (cellsI m st (.slice A13 n13 c13) vC vR vI) cZ' (.slice A13 n13 c13) vC vR vI r13 (.slice none 0 0) (.slice none 0 0) (.slice none 0 0) (LA ++ [ac]) LC LR LI [⟨t0, 0⟩, ⟨t1, 0⟩] [] [] []) ∧ (b 15 = true → b 18 = false → AllB w0 w' gC gZ (cellsI m st (.slice A13 n13 c13) vC vR vI) cZ' (.slice A13 n13 c13) r15 vR vI (.slice none 0 0) (.slice none 0 0) (.slice none 0 0) (.slice none 0 0) (LA ++ [ac]) (LC ++ [[⟨t0, 0⟩, ⟨t1, 0⟩]]) LR LI [] [] [] []) ∧ (b 18 = true → AllB w0 w' gC gZ (cellsI m st (.slice A13 n13 c13) r15 vR vI) cZ' (.slice A13 n13 c13) r15 vR vI (.slice none 0 0) (.slice none 0 0) (.slice none 0 0) (.slice none 0 0) (LA ++ [ac]) (LC ++ [[⟨t0, 0⟩, ⟨t1, 0⟩]]) LR LI [] [] [] []) ∧ (b 18 = false → w'.heap[gC]? = some (.cells (cellsI m st (.slice A13 n13 c13) vC vR vI) 27 (0, 0))) ∧ (w'.heap[gT]? = some (.cells csT 2 (0, 0))) ∧ (b 14 = true → b 15 = false → ∃ g_ : Nat, b14 = .slice (some ⟨g_, 0, none⟩) 1 1 ∧ w'.heap[g_]? = some (.cells [r13].toArray 48 (0, 0)))) HT_.out HW_.out (by kernel_rfl) (by kernel_rfl) ?_ ?_ ?_
  · exact ⟨.bool false, .bool false, .bool false, by simp only [putSel, Bool.false_eq_true, if_false], fun _ => ALL0.out, fun h_ => absurd h_ (by decide), fun h_ => absurd h_ (by decide), fun h_ => absurd h_ (by decide), fun _ => BX.out, BT.out, fun h_ => absurd h_ (by decide)⟩
  · skip
    clear ALL0 BT BX
    refine steps_cons ?_ ?_
    · rintro b a w' ⟨r13, r15, b14, ha, Q_ALL0, Q_ALL1, Q_ALL2, Q_ALL3, Q_BX, Q_BT, Q_BK14⟩ hb_ hon hoff
      refine ⟨_, rfl, fun K hK => ?_⟩
      have e19 : a.tmps[19]? = some (.pointer (some ⟨gC, 3, none⟩)) := by rw [ha]; exact (putSel_off rfl).trans rfl
      replace ha := Aside0.mk ha
      have BX := Aside0.mk (Q_BX (hoff 18 (by kernel_rfl)))
      have BT := Aside0.mk Q_BT
      have hc_ : w'.cell? ⟨gC, 3, none⟩ = some (vC) := (blk_cell BX.out 3).trans rfl
      refine value_ (w1 := w') (v := vC) (by rfl) rfl ?_ ?_
      · go_simp
        (try simp only [i64_w])
        try rfl
      refine hK.out _ _ ⟨r13, r15, b14, (by rw [ha.out]; exact putSel_upk 0 hb_ rfl rfl rfl), Q_ALL0, Q_ALL1, fun h0_ _ => absurd ((hoff 15 (by kernel_rfl)).symm.trans h0_) (by decide), fun h0_ => absurd ((hoff 18 (by kernel_rfl)).symm.trans h0_) (by decide), Q_BX, Q_BT, Q_BK14⟩
    refine steps_cons ?_ ?_
    · rintro b a w' ⟨r13, r15, b14, ha, Q_ALL0, Q_ALL1, Q_ALL2, Q_ALL3, Q_BX, Q_BT, Q_BK14⟩ hb_ hon hoff
      refine ⟨_, rfl, fun K hK => ?_⟩
      have e21 : a.tmps[21]? = some (.slice (some ⟨gT, 0, none⟩) 6 cT) := by rw [ha]; exact (putSel_off rfl).trans rfl
      replace ha := Aside0.mk ha
      have ALL0 := Aside0.mk (Q_ALL0 (hoff 13 (by kernel_rfl)))
      have BX := Aside0.mk (Q_BX (hoff 18 (by kernel_rfl)))
      have BT := Aside0.mk Q_BT
      refine value_ (w1 := w') (v := .pointer (some ⟨gT, 0, none⟩)) (by rfl) rfl ?_ ?_
      · go_simp
        (try simp only [i64_w])
        try rfl
      refine hK.out _ _ ⟨r13, r15, b14, (by rw [ha.out]; exact putSel_upk 1 hb_ rfl rfl rfl), Q_ALL0, fun h0_ _ => absurd ((hoff 13 (by kernel_rfl)).symm.trans h0_) (by decide), fun h0_ _ => absurd ((hoff 15 (by kernel_rfl)).symm.trans h0_) (by decide), fun h0_ => absurd ((hoff 18 (by kernel_rfl)).symm.trans h0_) (by decide), Q_BX, Q_BT, fun h0_ _ => absurd ((hoff 14 (by kernel_rfl)).symm.trans h0_) (by decide)⟩
    refine steps_cons ?_ ?_
    · rintro b a w' ⟨r13, r15, b14, ha, Q_ALL0, Q_ALL1, Q_ALL2, Q_ALL3, Q_BX, Q_BT, Q_BK14⟩ hb_ hon hoff
      refine ⟨_, rfl, fun K hK => ?_⟩
      have e22 : a.tmps[22]? = some (.pointer (some ⟨gT, 0, none⟩)) := by rw [ha]; exact putSel_on (e := (6, 22, .pointer (some ⟨gT, 0, none⟩))) 1 rfl rfl (hon 6 (by kernel_rfl)) rfl
      replace ha := Aside0.mk ha
      have ALL0 := Aside0.mk (Q_ALL0 (hoff 13 (by kernel_rfl)))
      have BX := Aside0.mk (Q_BX (hoff 18 (by kernel_rfl)))
      have BT := Aside0.mk Q_BT
      have hc_ : w'.cell? ⟨gT, 0, none⟩ = some (.int .i64 t0) := (blk_cell BT.out 0).trans HT0.out
      refine value_ (w1 := w') (v := .int .i64 t0) (by rfl) rfl ?_ ?_
      · go_simp
        (try simp only [i64_w])
        try rfl
      refine hK.out _ _ ⟨r13, r15, b14, (by rw [ha.out]; exact putSel_upk 2 hb_ rfl rfl rfl), Q_ALL0, fun h0_ _ => absurd ((hoff 13 (by kernel_rfl)).symm.trans h0_) (by decide), fun h0_ _ => absurd ((hoff 15 (by kernel_rfl)).symm.trans h0_) (by decide), fun h0_ => absurd ((hoff 18 (by kernel_rfl)).symm.trans h0_) (by decide), Q_BX, Q_BT, fun h0_ _ => absurd ((hoff 14 (by kernel_rfl)).symm.trans h0_) (by decide)⟩
    refine steps_cons ?_ ?_
    · rintro b a w' ⟨r13, r15, b14, ha, Q_ALL0, Q_ALL1, Q_ALL2, Q_ALL3, Q_BX, Q_BT, Q_BK14⟩ hb_ hon hoff
      refine ⟨_, rfl, fun K hK => ?_⟩
      have e23 : a.tmps[23]? = some (.int .i64 t0) := by rw [ha]; exact putSel_on (e := (7, 23, .int .i64 t0)) 2 rfl rfl (hon 7 (by kernel_rfl)) rfl
      replace ha := Aside0.mk ha
      have ALL0 := Aside0.mk (Q_ALL0 (hoff 13 (by kernel_rfl)))
      have BX := Aside0.mk (Q_BX (hoff 18 (by kernel_rfl)))
      have BT := Aside0.mk Q_BT
      refine value_ (w1 := w') (v := .agg #[.int .i64 t0, .int .i64 0]) (by rfl) rfl ?_ ?_
      · go_simp
        (try simp only [i64_w])
        try rfl
      refine hK.out _ _ ⟨r13, r15, b14, (by rw [ha.out]; exact putSel_upk 3 hb_ rfl rfl rfl), Q_ALL0, fun h0_ _ => absurd ((hoff 13 (by kernel_rfl)).symm.trans h0_) (by decide), fun h0_ _ => absurd ((hoff 15 (by kernel_rfl)).symm.trans h0_) (by decide), fun h0_ => absurd ((hoff 18 (by kernel_rfl)).symm.trans h0_) (by decide), Q_BX, Q_BT, fun h0_ _ => absurd ((hoff 14 (by kernel_rfl)).symm.trans h0_) (by decide)⟩
    refine steps_cons ?_ ?_
    · rintro b a w' ⟨r13, r15, b14, ha, Q_ALL0, Q_ALL1, Q_ALL2, Q_ALL3, Q_BX, Q_BT, Q_BK14⟩ hb_ hon hoff
      refine ⟨_, rfl, fun K hK => ?_⟩
      have e25 : a.tmps[25]? = some (.slice (some ⟨gT, 0, none⟩) 6 cT) := by rw [ha]; exact (putSel_off rfl).trans rfl
      replace ha := Aside0.mk ha
      have ALL0 := Aside0.mk (Q_ALL0 (hoff 13 (by kernel_rfl)))
      have BX := Aside0.mk (Q_BX (hoff 18 (by kernel_rfl)))
      have BT := Aside0.mk Q_BT
      refine value_ (w1 := w') (v := .pointer (some ⟨gT, 1, none⟩)) (by rfl) rfl ?_ ?_
      · go_simp
        (try simp only [i64_w])
        try rfl
      refine hK.out _ _ ⟨r13, r15, b14, (by rw [ha.out]; exact putSel_upk 4 hb_ rfl rfl rfl), Q_ALL0, fun h0_ _ => absurd ((hoff 13 (by kernel_rfl)).symm.trans h0_) (by decide), fun h0_ _ => absurd ((hoff 15 (by kernel_rfl)).symm.trans h0_) (by decide), fun h0_ => absurd ((hoff 18 (by kernel_rfl)).symm.trans h0_) (by decide), Q_BX, Q_BT, fun h0_ _ => absurd ((hoff 14 (by kernel_rfl)).symm.trans h0_) (by decide)⟩
    refine steps_cons ?_ ?_
    · rintro b a w' ⟨r13, r15, b14, ha, Q_ALL0, Q_ALL1, Q_ALL2, Q_ALL3, Q_BX, Q_BT, Q_BK14⟩ hb_ hon hoff
      refine ⟨_, rfl, fun K hK => ?_⟩
      have e26 : a.tmps[26]? = some (.pointer (some ⟨gT, 1, none⟩)) := by rw [ha]; exact putSel_on (e := (10, 26, .pointer (some ⟨gT, 1, none⟩))) 4 rfl rfl (hon 10 (by kernel_rfl)) rfl
      replace ha := Aside0.mk ha
      have ALL0 := Aside0.mk (Q_ALL0 (hoff 13 (by kernel_rfl)))
      have BX := Aside0.mk (Q_BX (hoff 18 (by kernel_rfl)))
      have BT := Aside0.mk Q_BT
      have hc_ : w'.cell? ⟨gT, 1, none⟩ = some (.int .i64 t1) := (blk_cell BT.out 1).trans HT1.out
      refine value_ (w1 := w') (v := .int .i64 t1) (by rfl) rfl ?_ ?_
      · go_simp
        (try simp only [i64_w])
        try rfl
      refine hK.out _ _ ⟨r13, r15, b14, (by rw [ha.out]; exact putSel_upk 5 hb_ rfl rfl rfl), Q_ALL0, fun h0_ _ => absurd ((hoff 13 (by kernel_rfl)).symm.trans h0_) (by decide), fun h0_ _ => absurd ((hoff 15 (by kernel_rfl)).symm.trans h0_) (by decide), fun h0_ => absurd ((hoff 18 (by kernel_rfl)).symm.trans h0_) (by decide), Q_BX, Q_BT, fun h0_ _ => absurd ((hoff 14 (by kernel_rfl)).symm.trans h0_) (by decide)⟩
    refine steps_cons ?_ ?_
    · rintro b a w' ⟨r13, r15, b14, ha, Q_ALL0, Q_ALL1, Q_ALL2, Q_ALL3, Q_BX, Q_BT, Q_BK14⟩ hb_ hon hoff
      refine ⟨_, rfl, fun K hK => ?_⟩
      have e27 : a.tmps[27]? = some (.int .i64 t1) := by rw [ha]; exact putSel_on (e := (11, 27, .int .i64 t1)) 5 rfl rfl (hon 11 (by kernel_rfl)) rfl
      replace ha := Aside0.mk ha
      have ALL0 := Aside0.mk (Q_ALL0 (hoff 13 (by kernel_rfl)))
      have BX := Aside0.mk (Q_BX (hoff 18 (by kernel_rfl)))
      have BT := Aside0.mk Q_BT
      refine value_ (w1 := w') (v := .agg #[.int .i64 t1, .int .i64 0]) (by rfl) rfl ?_ ?_
      · go_simp
        (try simp only [i64_w])
        try rfl
      refine hK.out _ _ ⟨r13, r15, b14, (by rw [ha.out]; exact putSel_upk 6 hb_ rfl rfl rfl), Q_ALL0, fun h0_ _ => absurd ((hoff 13 (by kernel_rfl)).symm.trans h0_) (by decide), fun h0_ _ => absurd ((hoff 15 (by kernel_rfl)).symm.trans h0_) (by decide), fun h0_ => absurd ((hoff 18 (by kernel_rfl)).symm.trans h0_) (by decide), Q_BX, Q_BT, fun h0_ _ => absurd ((hoff 14 (by kernel_rfl)).symm.trans h0_) (by decide)⟩
    refine steps_cons ?_ ?_
    · rintro b a w' ⟨r13, r15, b14, ha, Q_ALL0, Q_ALL1, Q_ALL2, Q_ALL3, Q_BX, Q_BT, Q_BK14⟩ hb_ hon hoff
      refine ⟨_, rfl, fun K hK => ?_⟩
      have e24 : a.tmps[24]? = some (.agg #[.int .i64 t0, .int .i64 0]) := by rw [ha]; exact putSel_on (e := (8, 24, .agg #[.int .i64 t0, .int .i64 0])) 3 rfl rfl (hon 8 (by kernel_rfl)) rfl
      have e28 : a.tmps[28]? = some (.agg #[.int .i64 t1, .int .i64 0]) := by rw [ha]; exact putSel_on (e := (12, 28, .agg #[.int .i64 t1, .int .i64 0])) 6 rfl rfl (hon 12 (by kernel_rfl)) rfl
      replace ha := Aside0.mk ha
      have ALL0 := Aside0.mk (Q_ALL0 hb_)
      have BX := Aside0.mk (Q_BX (hoff 18 (by kernel_rfl)))
      have BT := Aside0.mk Q_BT
      refine All.litx_c bap ALL0.out (by rfl) (N := 29) rfl [⟨t0, 0⟩, ⟨t1, 0⟩] [.int .i64 t0, .int .i64 0, .int .i64 t1, .int .i64 0] ?hrun (Reps.c2 (k47_mkM _ _ _ ⟨t0, 0⟩) (Reps.c2 (k47_mkM _ _ _ ⟨t1, 0⟩) (Reps.none _ _))) (by simp) ?_
      case hrun =>
        first | (go_simp; done) | (go_simp; rfl)
      intro v_ w_ ho hfar
      refine hK.out _ _ ⟨v_, r15, b14, (by rw [ha.out]; exact putSel_upk 7 hb_ rfl rfl rfl), fun h0_ => absurd ((up_self b 13).symm.trans h0_) (by decide), fun _ _ => ho, fun h0_ _ => absurd ((hoff 15 (by kernel_rfl)).symm.trans h0_) (by decide), fun h0_ => absurd ((hoff 18 (by kernel_rfl)).symm.trans h0_) (by decide), fun _ => hfar _ _ (BX.out), hfar _ _ (BT.out), fun h0_ _ => absurd ((hoff 14 (by kernel_rfl)).symm.trans h0_) (by decide)⟩
    refine steps_cons ?_ ?_
    · rintro b a w' ⟨r13, r15, b14, ha, Q_ALL0, Q_ALL1, Q_ALL2, Q_ALL3, Q_BX, Q_BT, Q_BK14⟩ hb_ hon hoff
      refine ⟨_, rfl, fun K hK => ?_⟩
      have e29 : a.tmps[29]? = some (r13) := by rw [ha]; exact putSel_on (e := (13, 29, r13)) 7 rfl rfl (hon 13 (by kernel_rfl)) rfl
      replace ha := Aside0.mk ha
      have ALL1 := Aside0.mk (Q_ALL1 (hon 13 (by kernel_rfl)) (hoff 15 (by kernel_rfl)))
      have BX := Aside0.mk (Q_BX (hoff 18 (by kernel_rfl)))
      have BT := Aside0.mk Q_BT
      obtain ⟨A_, n_, c_, hr_⟩ := (shapes ALL1.out).2.1
      subst hr_
      refine value_ (w1 := ?_) (v := ?_) (by rfl) rfl ?_ ?_
      rotate_left 2
      · go_simp
        constructor
        · rfl
        · rfl
      refine hK.out _ _ ⟨(.slice A_ n_ c_), r15, .slice (some ⟨w'.heap.size, 0, none⟩) 1 1, (by rw [ha.out]; exact putSel_upk 8 hb_ rfl rfl rfl), fun h0_ => absurd ((hon 13 (by kernel_rfl)).symm.trans h0_) (by decide), fun _ _ => All.alloc (ALL1.out) _, fun h0_ _ => absurd ((hoff 15 (by kernel_rfl)).symm.trans h0_) (by decide), fun h0_ => absurd ((hoff 18 (by kernel_rfl)).symm.trans h0_) (by decide), fun _ => blk_alloc (BX.out) _, blk_alloc (BT.out) _, fun _ _ => ⟨w'.heap.size, rfl, heap_alloc_new w' _⟩⟩
    refine steps_cons ?_ ?_
    · rintro b a w' ⟨r13, r15, b14, ha, Q_ALL0, Q_ALL1, Q_ALL2, Q_ALL3, Q_BX, Q_BT, Q_BK14⟩ hb_ hon hoff
      refine ⟨_, rfl, fun K hK => ?_⟩
      have e20 : a.tmps[20]? = some (vC) := by rw [ha]; exact putSel_on (e := (4, 20, vC)) 0 rfl rfl (hon 4 (by kernel_rfl)) rfl
      have e30 : a.tmps[30]? = some (b14) := by rw [ha]; exact putSel_on (e := (14, 30, b14)) 8 rfl rfl (hon 14 (by kernel_rfl)) rfl
      replace ha := Aside0.mk ha
      have ALL1 := Aside0.mk (Q_ALL1 (hon 13 (by kernel_rfl)) hb_)
      have BX := Aside0.mk (Q_BX (hoff 18 (by kernel_rfl)))
      have BT := Aside0.mk Q_BT
      have BK14 := Aside0.mk (Q_BK14 (hon 14 (by kernel_rfl)) hb_)
      obtain ⟨g_, hq_, hg_⟩ := BK14.out
      refine All.app_C bap ALL1.out (by rfl) (.tmp 20) (.tmp 30) 23 rfl Try.underlying23 bi48 (eval_of e20) g_ ((eval_of e30).trans hq_) hg_ (by have := HLC.out; omega) ?_
      intro v_ w_ ho hfar
      refine hK.out _ _ ⟨r13, v_, b14, (by rw [ha.out]; exact putSel_upk 9 hb_ rfl rfl rfl), fun h0_ => absurd ((hon 13 (by kernel_rfl)).symm.trans h0_) (by decide), fun _ h1_ => absurd ((up_self b 15).symm.trans h1_) (by decide), fun _ _ => ho, fun h0_ => absurd ((hoff 18 (by kernel_rfl)).symm.trans h0_) (by decide), fun _ => hfar _ _ _ (BX.out) (by decide), hfar _ _ _ (BT.out) (by decide), fun _ h1_ => absurd ((up_self b 15).symm.trans h1_) (by decide)⟩
    refine steps_cons ?_ ?_
    · rintro b a w' ⟨r13, r15, b14, ha, Q_ALL0, Q_ALL1, Q_ALL2, Q_ALL3, Q_BX, Q_BT, Q_BK14⟩ hb_ hon hoff
      refine ⟨_, rfl, fun K hK => ?_⟩
      have e16 : a.tmps[16]? = some (.pointer (some ⟨gC, 0, none⟩)) := by rw [ha]; exact (putSel_off rfl).trans rfl
      replace ha := Aside0.mk ha
      have ALL2 := Aside0.mk (Q_ALL2 (hon 15 (by kernel_rfl)) (hoff 18 (by kernel_rfl)))
      have BX := Aside0.mk (Q_BX (hoff 18 (by kernel_rfl)))
      have BT := Aside0.mk Q_BT
      refine value_ (w1 := w') (v := .pointer (some ⟨gC, 0, none⟩)) (by rfl) rfl ?_ ?_
      · go_simp
        (try simp only [i64_w])
        try rfl
      refine hK.out _ _ ⟨r13, r15, b14, (by rw [ha.out]; exact putSel_upk 10 hb_ rfl rfl rfl), fun h0_ => absurd ((hon 13 (by kernel_rfl)).symm.trans h0_) (by decide), fun _ h1_ => absurd ((hon 15 (by kernel_rfl)).symm.trans h1_) (by decide), Q_ALL2, fun h0_ => absurd ((hoff 18 (by kernel_rfl)).symm.trans h0_) (by decide), Q_BX, Q_BT, fun _ h1_ => absurd ((hon 15 (by kernel_rfl)).symm.trans h1_) (by decide)⟩
    refine steps_cons ?_ ?_
    · rintro b a w' ⟨r13, r15, b14, ha, Q_ALL0, Q_ALL1, Q_ALL2, Q_ALL3, Q_BX, Q_BT, Q_BK14⟩ hb_ hon hoff
      refine ⟨_, rfl, fun K hK => ?_⟩
      have e32 : a.tmps[32]? = some (.pointer (some ⟨gC, 0, none⟩)) := by rw [ha]; exact putSel_on (e := (16, 32, .pointer (some ⟨gC, 0, none⟩))) 10 rfl rfl (hon 16 (by kernel_rfl)) rfl
      replace ha := Aside0.mk ha
      have ALL2 := Aside0.mk (Q_ALL2 (hon 15 (by kernel_rfl)) (hoff 18 (by kernel_rfl)))
      have BX := Aside0.mk (Q_BX (hoff 18 (by kernel_rfl)))
      have BT := Aside0.mk Q_BT
      refine value_ (w1 := w') (v := .pointer (some ⟨gC, 3, none⟩)) (by rfl) rfl ?_ ?_
      · go_simp
        (try simp only [i64_w])
        try rfl
      refine hK.out _ _ ⟨r13, r15, b14, (by rw [ha.out]; exact putSel_upk 11 hb_ rfl rfl rfl), fun h0_ => absurd ((hon 13 (by kernel_rfl)).symm.trans h0_) (by decide), fun _ h1_ => absurd ((hon 15 (by kernel_rfl)).symm.trans h1_) (by decide), Q_ALL2, fun h0_ => absurd ((hoff 18 (by kernel_rfl)).symm.trans h0_) (by decide), Q_BX, Q_BT, fun _ h1_ => absurd ((hon 15 (by kernel_rfl)).symm.trans h1_) (by decide)⟩
    refine steps_cons ?_ ?_
    · rintro b a w' ⟨r13, r15, b14, ha, Q_ALL0, Q_ALL1, Q_ALL2, Q_ALL3, Q_BX, Q_BT, Q_BK14⟩ hb_ hon hoff
      refine ⟨_, rfl, fun K hK => ?_⟩
      have e33 : a.tmps[33]? = some (.pointer (some ⟨gC, 3, none⟩)) := by rw [ha]; exact putSel_on (e := (17, 33, .pointer (some ⟨gC, 3, none⟩))) 11 rfl rfl (hon 17 (by kernel_rfl)) rfl
      have e31 : a.tmps[31]? = some (r15) := by rw [ha]; exact putSel_on (e := (15, 31, r15)) 9 rfl rfl (hon 15 (by kernel_rfl)) rfl
      replace ha := Aside0.mk ha
      have ALL2 := Aside0.mk (Q_ALL2 (hon 15 (by kernel_rfl)) hb_)
      have BX := Aside0.mk (Q_BX hb_)
      have BT := Aside0.mk Q_BT
      obtain ⟨A_, n_, c_, hr_⟩ := (shapes ALL2.out).2.2.2.2.2.1
      subst hr_
      have hc_ : w'.cell? ⟨gC, 3, none⟩ = some (vC) := (blk_cell (All.boxC ALL2.out) 3).trans rfl
      have hf_ := blk_frozen (All.boxC ALL2.out) 3
      refine skip_ (w1 := ?_) (by rfl) rfl ?_ ?_
      rotate_left
      · go_simp
        rfl
      refine hK.out _ _ ⟨r13, (.slice A_ n_ c_), b14, (by rw [ha.out]; exact putSel_none (v := undef) rfl), fun h0_ => absurd ((hon 13 (by kernel_rfl)).symm.trans h0_) (by decide), fun _ h1_ => absurd ((hon 15 (by kernel_rfl)).symm.trans h1_) (by decide), fun _ h1_ => absurd ((up_self b 18).symm.trans h1_) (by decide), fun _ => (All.set bap ALL2.out 3 _), fun h0_ => absurd ((up_self b 18).symm.trans h0_) (by decide), (Below.heap_setCell _ _ _ _ NT.out).trans BT.out, fun _ h1_ => absurd ((hon 15 (by kernel_rfl)).symm.trans h1_) (by decide)⟩
    exact steps_nil
  · rintro b a w' hall ⟨r13, r15, b14, ha, Q_ALL0, Q_ALL1, Q_ALL2, Q_ALL3, Q_BX, Q_BT, Q_BK14⟩
    clear ALL0 BT BX
    have hb4_ := hall 4 (by kernel_rfl)
    have hb6_ := hall 6 (by kernel_rfl)
    have hb7_ := hall 7 (by kernel_rfl)
    have hb8_ := hall 8 (by kernel_rfl)
    have hb10_ := hall 10 (by kernel_rfl)
    have hb11_ := hall 11 (by kernel_rfl)
    have hb12_ := hall 12 (by kernel_rfl)
    have hb13_ := hall 13 (by kernel_rfl)
    have hb14_ := hall 14 (by kernel_rfl)
    have hb15_ := hall 15 (by kernel_rfl)
    have hb16_ := hall 16 (by kernel_rfl)
    have hb17_ := hall 17 (by kernel_rfl)
    have hb18_ := hall 18 (by kernel_rfl)
    subst ha
    simp only [putSel, hb4_, hb6_, hb7_, hb8_, hb10_, hb11_, hb12_, hb13_, hb14_, hb15_, hb16_, hb17_, hb18_, if_true, Act.put, List.setIfInBounds_toArray, List.set_cons_zero, List.set_cons_succ]
    clear Q_ALL0
    clear Q_ALL1
    clear Q_ALL2
    have ALL3 := Aside0.mk (Q_ALL3 hb18_)
    clear Q_ALL3
    clear Q_BX
    have BT := Aside0.mk Q_BT
    clear Q_BT
    clear Q_BK14
    clear hall hb4_ hb6_ hb7_ hb8_ hb10_ hb11_ hb12_ hb13_ hb14_ hb15_ hb16_ hb17_ hb18_
    have HO := Aside0.mk ALL3.out
    clear ALL3
    go_wp2
    refine start_ (n := 29) (S := fun w' => True) (ds := []) #[false, false, false, false, false, false, false, false, false, false, false, false, false, false, false, false, false, false, false, false, false, false, false, false, false, false, false, false, false] (by kernel_rfl) rfl rfl trivial (fun hHeld => ?_)
    refine with_tabW plain.tab2 plain.bits2 (fun HT_ HW_ => ?_)
    have ALL0 := Aside0.mk (All.drew HO.out)
    have BX := Aside0.mk (All.boxC ALL0.out)
    have n_ := Aside0.mk (blk_drew BT.out)
    clear HO BT
    have BT := n_
    clear n_
    generalize World.drew _ = wD at ALL0 BX BT hHeld ⊢
    refine pure_ (i := 0) (N := some 34) (v := ?_) (a' := ?_) #[true, false, false, false, false, false, false, false, false, false, false, false, false, false, false, false, false, false, false, false, false, false, false, false, false, false, false, false, false] rfl rfl (any_of HT_.out (by kernel_rfl)) (fun _ _ _ h => h) (Or.inl ⟨by rfl, ?_⟩) ?_ ?_
    rotate_left
    · intro w'
      go_simp
      with_reducible rfl
    rotate_left
    · simp only [Act.put, List.setIfInBounds_toArray, List.set_cons_zero, List.set_cons_succ, i64_w, i32_w]
      rfl
    refine pure_ (i := 1) (N := some 35) (v := ?_) (a' := ?_) #[true, true, false, false, false, false, false, false, false, false, false, false, false, false, false, false, false, false, false, false, false, false, false, false, false, false, false, false, false] rfl rfl (any_of HT_.out (by kernel_rfl)) (fun _ _ _ h => h) (Or.inl ⟨by rfl, ?_⟩) ?_ ?_
    rotate_left
    · intro w'
      go_simp
      with_reducible rfl
    rotate_left
    · simp only [Act.put, List.setIfInBounds_toArray, List.set_cons_zero, List.set_cons_succ, i64_w, i32_w]
      rfl
    refine pure_ (i := 2) (N := some 36) (v := ?_) (a' := ?_) #[true, true, true, false, false, false, false, false, false, false, false, false, false, false, false, false, false, false, false, false, false, false, false, false, false, false, false, false, false] rfl rfl (any_of HT_.out (by kernel_rfl)) (fun _ _ _ h => h) (Or.inl ⟨by rfl, ?_⟩) ?_ ?_
    rotate_left
    · intro w'
      go_simp
      with_reducible rfl
    rotate_left
    · simp only [Act.put, List.setIfInBounds_toArray, List.set_cons_zero, List.set_cons_succ, i64_w, i32_w]
      rfl
    refine pure_ (i := 3) (N := some 37) (v := ?_) (a' := ?_) #[true, true, true, true, false, false, false, false, false, false, false, false, false, false, false, false, false, false, false, false, false, false, false, false, false, false, false, false, false] rfl rfl (any_of HT_.out (by kernel_rfl)) (fun _ _ _ h => h) (Or.inl ⟨by rfl, ?_⟩) ?_ ?_
    rotate_left
    · intro w'
      go_simp
      with_reducible rfl
    rotate_left
    · simp only [Act.put, List.setIfInBounds_toArray, List.set_cons_zero, List.set_cons_succ, i64_w, i32_w]
      rfl
    refine pure_ (i := 5) (N := some 39) (v := ?_) (a' := ?_) #[true, true, true, true, false, true, false, false, false, false, false, false, false, false, false, false, false, false, false, false, false, false, false, false, false, false, false, false, false] rfl rfl (any_of HT_.out (by kernel_rfl)) (fun _ _ _ h => h) (Or.inl ⟨by rfl, ?_⟩) ?_ ?_
    rotate_left
    · intro w'
      go_simp
      with_reducible rfl
    rotate_left
    · simp only [Act.put, List.setIfInBounds_toArray, List.set_cons_zero, List.set_cons_succ, i64_w, i32_w]
      rfl
    refine pure_ (i := 8) (N := some 42) (v := ?_) (a' := ?_) #[true, true, true, true, false, true, false, false, true, false, false, false, false, false, false, false, false, false, false, false, false, false, false, false, false, false, false, false, false] rfl rfl (any_of HT_.out (by kernel_rfl)) (fun _ _ _ h => h) (Or.inl ⟨by rfl, ?_⟩) ?_ ?_
    rotate_left
    · intro w'
      go_simp
      with_reducible rfl
    rotate_left
    · simp only [Act.put, List.setIfInBounds_toArray, List.set_cons_zero, List.set_cons_succ, i64_w, i32_w]
      rfl
    refine pure_ (i := 9) (N := some 43) (v := ?_) (a' := ?_) #[true, true, true, true, false, true, false, false, true, true, false, false, false, false, false, false, false, false, false, false, false, false, false, false, false, false, false, false, false] rfl rfl (any_of HT_.out (by kernel_rfl)) (fun _ _ _ h => h) (Or.inl ⟨by rfl, ?_⟩) ?_ ?_
    rotate_left
    · intro w'
      go_simp
      with_reducible rfl
    rotate_left
    · simp only [Act.put, List.setIfInBounds_toArray, List.set_cons_zero, List.set_cons_succ, i64_w, i32_w]
      rfl
    refine pure_ (i := 10) (N := some 44) (v := ?_) (a' := ?_) #[true, true, true, true, false, true, false, false, true, true, true, false, false, false, false, false, false, false, false, false, false, false, false, false, false, false, false, false, false] rfl rfl (any_of HT_.out (by kernel_rfl)) (fun _ _ _ h => h) (Or.inl ⟨by rfl, ?_⟩) ?_ ?_
    rotate_left
    · intro w'
      go_simp
      with_reducible rfl
    rotate_left
    · simp only [Act.put, List.setIfInBounds_toArray, List.set_cons_zero, List.set_cons_succ, i64_w, i32_w]
      rfl
    refine pure_ (i := 14) (N := some 48) (v := ?_) (a' := ?_) #[true, true, true, true, false, true, false, false, true, true, true, false, false, false, true, false, false, false, false, false, false, false, false, false, false, false, false, false, false] rfl rfl (any_of HT_.out (by kernel_rfl)) (fun _ _ _ h => h) (Or.inl ⟨by rfl, ?_⟩) ?_ ?_
    rotate_left
    · intro w'
      go_simp
      with_reducible rfl
    rotate_left
    · simp only [Act.put, List.setIfInBounds_toArray, List.set_cons_zero, List.set_cons_succ, i64_w, i32_w]
      rfl
    refine pure_ (i := 17) (N := some 51) (v := ?_) (a' := ?_) #[true, true, true, true, false, true, false, false, true, true, true, false, false, false, true, false, false, true, false, false, false, false, false, false, false, false, false, false, false] rfl rfl (any_of HT_.out (by kernel_rfl)) (fun _ _ _ h => h) (Or.inl ⟨by rfl, ?_⟩) ?_ ?_
    rotate_left
    · intro w'
      go_simp
      with_reducible rfl
    rotate_left
    · simp only [Act.put, List.setIfInBounds_toArray, List.set_cons_zero, List.set_cons_succ, i64_w, i32_w]
      rfl
    refine pure_ (i := 18) (N := some 52) (v := ?_) (a' := ?_) #[true, true, true, true, false, true, false, false, true, true, true, false, false, false, true, false, false, true, true, false, false, false, false, false, false, false, false, false, false] rfl rfl (any_of HT_.out (by kernel_rfl)) (fun _ _ _ h => h) (Or.inl ⟨by rfl, ?_⟩) ?_ ?_
    rotate_left
    · intro w'
      go_simp
      with_reducible rfl
    rotate_left
    · simp only [Act.put, List.setIfInBounds_toArray, List.set_cons_zero, List.set_cons_succ, i64_w, i32_w]
      rfl
    refine pure_ (i := 19) (N := some 53) (v := ?_) (a' := ?_) #[true, true, true, true, false, true, false, false, true, true, true, false, false, false, true, false, false, true, true, true, false, false, false, false, false, false, false, false, false] rfl rfl (any_of HT_.out (by kernel_rfl)) (fun _ _ _ h => h) (Or.inl ⟨by rfl, ?_⟩) ?_ ?_
    rotate_left
    · intro w'
      go_simp
      with_reducible rfl
    rotate_left
    · simp only [Act.put, List.setIfInBounds_toArray, List.set_cons_zero, List.set_cons_succ, i64_w, i32_w]
      rfl
    refine inv_at [4, 6, 7, 11, 12, 13, 15, 16, 20, 21, 22, 23, 24, 25, 26, 27, 28] (fun a0_ b a w' => ∃ (r13 : Value) (r22 : Value) (r23 : Value) (r25 : Value) (b24 : Value), a = putSel a0_ b [(4, 38, vR), (6, 40, .pointer (some ⟨gT, 2, none⟩)), (7, 41, .int .i64 t2), (11, 45, .int .i64 m), (12, 46, .int .i64 (wrap64 (m + 1))), (13, 47, r13), (15, 49, .pointer (some ⟨gT, 3, none⟩)), (16, 50, .int .i64 t3), (20, 54, .int .i64 m), (21, 55, .int .i64 (wrap64 (m + 1))), (22, 56, r22), (23, 57, r23), (24, 58, b24), (25, 59, r25), (26, 60, .pointer (some ⟨gC, 0, none⟩)), (27, 61, .pointer (some ⟨gC, 4, none⟩))] ∧ (b 13 = false → AllB w0 w' gC gZ (cellsI m st (.slice A13 n13 c13) r15 vR vI) cZ' (.slice A13 n13 c13) r15 vR vI (.slice none 0 0) (.slice none 0 0) (.slice none 0 0) (.slice none 0 0) (LA ++ [ac]) (LC ++ [[⟨t0, 0⟩, ⟨t1, 0⟩]]) LR LI [] [] [] []) ∧ (b 13 = true → b 22 = false → AllB w0 w' gC gZ (cellsI m st (.slice A13 n13 c13) r15 vR vI) cZ' (.slice A13 n13 c13) r15 vR vI (.slice none 0 0) (.slice none 0 0) r13 (.slice none 0 0) (LA ++ [ac]) (LC ++ [[⟨t0, 0⟩, ⟨t1, 0⟩]]) LR LI [] [] (List.replicate (m + 1).toNat t2) []) ∧ (b 22 = true → b 23 = false → AllB w0 w' gC gZ (cellsI m st (.slice A13 n13 c13) r15 vR vI) cZ' (.slice A13 n13 c13) r15 vR vI (.slice none 0 0) (.slice none 0 0) r13 r22 (LA ++ [ac]) (LC ++ [[⟨t0, 0⟩, ⟨t1, 0⟩]]) LR LI [] [] (List.replicate (m + 1).toNat t2) (List.replicate (m + 1).toNat t3)) ∧ (b 23 = true → b 25 = false → AllB w0 w' gC gZ (cellsI m st (.slice A13 n13 c13) r15 vR vI) cZ' (.slice A13 n13 c13) r15 vR vI (.slice none 0 0) r23 (.slice none 0 0) (.slice none 0 0) (LA ++ [ac]) (LC ++ [[⟨t0, 0⟩, ⟨t1, 0⟩]]) LR LI [] [(List.replicate (m + 1).toNat t2), (List.replicate (m + 1).toNat t3)] [] []) ∧ (b 25 = true → b 28 = false → AllB w0 w' gC gZ (cellsI m st (.slice A13 n13 c13) r15 vR vI) cZ' (.slice A13 n13 c13) r15 r25 vI (.slice none 0 0) (.slice none 0 0) (.slice none 0 0) (.slice none 0 0) (LA ++ [ac]) (LC ++ [[⟨t0, 0⟩, ⟨t1, 0⟩]]) (LR ++ [[(List.replicate (m + 1).toNat t2), (List.replicate (m + 1).toNat t3)]]) LI [] [] [] []) ∧ (b 28 = true → AllB w0 w' gC gZ (cellsI m st (.slice A13 n13 c13) r15 r25 vI) cZ' (.slice A13 n13 c13) r15 r25 vI (.slice none 0 0) (.slice none 0 0) (.slice none 0 0) (.slice none 0 0) (LA ++ [ac]) (LC ++ [[⟨t0, 0⟩, ⟨t1, 0⟩]]) (LR ++ [[(List.replicate (m + 1).toNat t2), (List.replicate (m + 1).toNat t3)]]) LI [] [] [] []) ∧ (b 28 = false → w'.heap[gC]? = some (.cells (cellsI m st (.slice A13 n13 c13) r15 vR vI) 27 (0, 0))) ∧ (w'.heap[gT]? = some (.cells csT 2 (0, 0))) ∧ (b 24 = true → b 25 = false → ∃ g_ : Nat, b24 = .slice (some ⟨g_, 0, none⟩) 1 1 ∧ w'.heap[g_]? = some (.cells [r23].toArray 25 (0, 0)))) HT_.out HW_.out (by kernel_rfl) (by kernel_rfl) ?_ ?_ ?_
    · exact ⟨.bool false, .bool false, .bool false, .bool false, .bool false, by simp only [putSel, Bool.false_eq_true, if_false], fun _ => ALL0.out, fun h_ => absurd h_ (by decide), fun h_ => absurd h_ (by decide), fun h_ => absurd h_ (by decide), fun h_ => absurd h_ (by decide), fun h_ => absurd h_ (by decide), fun _ => BX.out, BT.out, fun h_ => absurd h_ (by decide)⟩
    · skip
      clear ALL0 BT BX
      refine steps_cons ?_ ?_
      · rintro b a w' ⟨r13, r22, r23, r25, b24, ha, Q_ALL0, Q_ALL1, Q_ALL2, Q_ALL3, Q_ALL4, Q_ALL5, Q_BX, Q_BT, Q_BK24⟩ hb_ hon hoff
        refine ⟨_, rfl, fun K hK => ?_⟩
        have e37 : a.tmps[37]? = some (.pointer (some ⟨gC, 4, none⟩)) := by rw [ha]; exact (putSel_off rfl).trans rfl
        replace ha := Aside0.mk ha
        have BX := Aside0.mk (Q_BX (hoff 28 (by kernel_rfl)))
        have BT := Aside0.mk Q_BT
        have hc_ : w'.cell? ⟨gC, 4, none⟩ = some (vR) := (blk_cell BX.out 4).trans rfl
        refine value_ (w1 := w') (v := vR) (by rfl) rfl ?_ ?_
        · go_simp
          (try simp only [i64_w])
          try rfl
        refine hK.out _ _ ⟨r13, r22, r23, r25, b24, (by rw [ha.out]; exact putSel_upk 0 hb_ rfl rfl rfl), Q_ALL0, Q_ALL1, Q_ALL2, Q_ALL3, fun h0_ _ => absurd ((hoff 25 (by kernel_rfl)).symm.trans h0_) (by decide), fun h0_ => absurd ((hoff 28 (by kernel_rfl)).symm.trans h0_) (by decide), Q_BX, Q_BT, Q_BK24⟩
      refine steps_cons ?_ ?_
      · rintro b a w' ⟨r13, r22, r23, r25, b24, ha, Q_ALL0, Q_ALL1, Q_ALL2, Q_ALL3, Q_ALL4, Q_ALL5, Q_BX, Q_BT, Q_BK24⟩ hb_ hon hoff
        refine ⟨_, rfl, fun K hK => ?_⟩
        have e39 : a.tmps[39]? = some (.slice (some ⟨gT, 0, none⟩) 6 cT) := by rw [ha]; exact (putSel_off rfl).trans rfl
        replace ha := Aside0.mk ha
        have ALL0 := Aside0.mk (Q_ALL0 (hoff 13 (by kernel_rfl)))
        have BX := Aside0.mk (Q_BX (hoff 28 (by kernel_rfl)))
        have BT := Aside0.mk Q_BT
        refine value_ (w1 := w') (v := .pointer (some ⟨gT, 2, none⟩)) (by rfl) rfl ?_ ?_
        · go_simp
          (try simp only [i64_w])
          try rfl
        refine hK.out _ _ ⟨r13, r22, r23, r25, b24, (by rw [ha.out]; exact putSel_upk 1 hb_ rfl rfl rfl), Q_ALL0, fun h0_ _ => absurd ((hoff 13 (by kernel_rfl)).symm.trans h0_) (by decide), fun h0_ _ => absurd ((hoff 22 (by kernel_rfl)).symm.trans h0_) (by decide), fun h0_ _ => absurd ((hoff 23 (by kernel_rfl)).symm.trans h0_) (by decide), fun h0_ _ => absurd ((hoff 25 (by kernel_rfl)).symm.trans h0_) (by decide), fun h0_ => absurd ((hoff 28 (by kernel_rfl)).symm.trans h0_) (by decide), Q_BX, Q_BT, fun h0_ _ => absurd ((hoff 24 (by kernel_rfl)).symm.trans h0_) (by decide)⟩
      refine steps_cons ?_ ?_
      · rintro b a w' ⟨r13, r22, r23, r25, b24, ha, Q_ALL0, Q_ALL1, Q_ALL2, Q_ALL3, Q_ALL4, Q_ALL5, Q_BX, Q_BT, Q_BK24⟩ hb_ hon hoff
        refine ⟨_, rfl, fun K hK => ?_⟩
        have e40 : a.tmps[40]? = some (.pointer (some ⟨gT, 2, none⟩)) := by rw [ha]; exact putSel_on (e := (6, 40, .pointer (some ⟨gT, 2, none⟩))) 1 rfl rfl (hon 6 (by kernel_rfl)) rfl
        replace ha := Aside0.mk ha
        have ALL0 := Aside0.mk (Q_ALL0 (hoff 13 (by kernel_rfl)))
        have BX := Aside0.mk (Q_BX (hoff 28 (by kernel_rfl)))
        have BT := Aside0.mk Q_BT
        have hc_ : w'.cell? ⟨gT, 2, none⟩ = some (.int .i64 t2) := (blk_cell BT.out 2).trans HT2.out
        refine value_ (w1 := w') (v := .int .i64 t2) (by rfl) rfl ?_ ?_
        · go_simp
          (try simp only [i64_w])
          try rfl
        refine hK.out _ _ ⟨r13, r22, r23, r25, b24, (by rw [ha.out]; exact putSel_upk 2 hb_ rfl rfl rfl), Q_ALL0, fun h0_ _ => absurd ((hoff 13 (by kernel_rfl)).symm.trans h0_) (by decide), fun h0_ _ => absurd ((hoff 22 (by kernel_rfl)).symm.trans h0_) (by decide), fun h0_ _ => absurd ((hoff 23 (by kernel_rfl)).symm.trans h0_) (by decide), fun h0_ _ => absurd ((hoff 25 (by kernel_rfl)).symm.trans h0_) (by decide), fun h0_ => absurd ((hoff 28 (by kernel_rfl)).symm.trans h0_) (by decide), Q_BX, Q_BT, fun h0_ _ => absurd ((hoff 24 (by kernel_rfl)).symm.trans h0_) (by decide)⟩
      refine steps_cons ?_ ?_
      · rintro b a w' ⟨r13, r22, r23, r25, b24, ha, Q_ALL0, Q_ALL1, Q_ALL2, Q_ALL3, Q_ALL4, Q_ALL5, Q_BX, Q_BT, Q_BK24⟩ hb_ hon hoff
        refine ⟨_, rfl, fun K hK => ?_⟩
        have e44 : a.tmps[44]? = some (.pointer (some ⟨gC, 0, none⟩)) := by rw [ha]; exact (putSel_off rfl).trans rfl
        replace ha := Aside0.mk ha
        have ALL0 := Aside0.mk (Q_ALL0 (hoff 13 (by kernel_rfl)))
        have BX := Aside0.mk (Q_BX (hoff 28 (by kernel_rfl)))
        have BT := Aside0.mk Q_BT
        have hc_ : w'.cell? ⟨gC, 0, none⟩ = some (.int .i64 m) := (blk_cell BX.out 0).trans rfl
        refine value_ (w1 := w') (v := .int .i64 m) (by rfl) rfl ?_ ?_
        · go_simp
          (try simp only [i64_w])
          try rfl
        refine hK.out _ _ ⟨r13, r22, r23, r25, b24, (by rw [ha.out]; exact putSel_upk 3 hb_ rfl rfl rfl), Q_ALL0, fun h0_ _ => absurd ((hoff 13 (by kernel_rfl)).symm.trans h0_) (by decide), fun h0_ _ => absurd ((hoff 22 (by kernel_rfl)).symm.trans h0_) (by decide), fun h0_ _ => absurd ((hoff 23 (by kernel_rfl)).symm.trans h0_) (by decide), fun h0_ _ => absurd ((hoff 25 (by kernel_rfl)).symm.trans h0_) (by decide), fun h0_ => absurd ((hoff 28 (by kernel_rfl)).symm.trans h0_) (by decide), Q_BX, Q_BT, fun h0_ _ => absurd ((hoff 24 (by kernel_rfl)).symm.trans h0_) (by decide)⟩
      refine steps_cons ?_ ?_
      · rintro b a w' ⟨r13, r22, r23, r25, b24, ha, Q_ALL0, Q_ALL1, Q_ALL2, Q_ALL3, Q_ALL4, Q_ALL5, Q_BX, Q_BT, Q_BK24⟩ hb_ hon hoff
        refine ⟨_, rfl, fun K hK => ?_⟩
        have e45 : a.tmps[45]? = some (.int .i64 m) := by rw [ha]; exact putSel_on (e := (11, 45, .int .i64 m)) 3 rfl rfl (hon 11 (by kernel_rfl)) rfl
        replace ha := Aside0.mk ha
        have ALL0 := Aside0.mk (Q_ALL0 (hoff 13 (by kernel_rfl)))
        have BX := Aside0.mk (Q_BX (hoff 28 (by kernel_rfl)))
        have BT := Aside0.mk Q_BT
        refine value_ (w1 := w') (v := .int .i64 (wrap64 (m + 1))) (by rfl) rfl ?_ ?_
        · go_simp
          (try simp only [i64_w])
          try rfl
        refine hK.out _ _ ⟨r13, r22, r23, r25, b24, (by rw [ha.out]; exact putSel_upk 4 hb_ rfl rfl rfl), Q_ALL0, fun h0_ _ => absurd ((hoff 13 (by kernel_rfl)).symm.trans h0_) (by decide), fun h0_ _ => absurd ((hoff 22 (by kernel_rfl)).symm.trans h0_) (by decide), fun h0_ _ => absurd ((hoff 23 (by kernel_rfl)).symm.trans h0_) (by decide), fun h0_ _ => absurd ((hoff 25 (by kernel_rfl)).symm.trans h0_) (by decide), fun h0_ => absurd ((hoff 28 (by kernel_rfl)).symm.trans h0_) (by decide), Q_BX, Q_BT, fun h0_ _ => absurd ((hoff 24 (by kernel_rfl)).symm.trans h0_) (by decide)⟩
      refine steps_cons ?_ ?_
      · rintro b a w' ⟨r13, r22, r23, r25, b24, ha, Q_ALL0, Q_ALL1, Q_ALL2, Q_ALL3, Q_ALL4, Q_ALL5, Q_BX, Q_BT, Q_BK24⟩ hb_ hon hoff
        refine ⟨_, rfl, fun K hK => ?_⟩
        have e41 : a.tmps[41]? = some (.int .i64 t2) := by rw [ha]; exact putSel_on (e := (7, 41, .int .i64 t2)) 2 rfl rfl (hon 7 (by kernel_rfl)) rfl
        have e46 : a.tmps[46]? = some (.int .i64 (wrap64 (m + 1))) := by rw [ha]; exact putSel_on (e := (12, 46, .int .i64 (wrap64 (m + 1)))) 4 rfl rfl (hon 12 (by kernel_rfl)) rfl
        replace ha := Aside0.mk ha
        have ALL0 := Aside0.mk (Q_ALL0 hb_)
        have BX := Aside0.mk (Q_BX (hoff 28 (by kernel_rfl)))
        have BT := Aside0.mk Q_BT
        refine goes_ Try.func53 (by kernel_rfl) rfl #[.int .i64 t2, .int .i64 (wrap64 (m + 1))] (by rfl) rfl rfl (by simp only [List.map_toArray, List.map_cons, List.map_nil, eval_of e41, eval_of e46]) ?_
        refine (spec_l02Same.calls 2000 t2 (wrap64 (m + 1)) (List.replicate (m + 1).toNat t2) _ (same_f t2 m HM.out)).mono ?_
        rintro e w_ ⟨v_, rfl, hr, hb⟩
        refine ⟨_, rfl, ?_⟩
        refine hK.out _ _ ⟨v_, r22, r23, r25, b24, (by rw [ha.out]; exact putSel_upk 5 hb_ rfl rfl rfl), fun h0_ => absurd ((up_self b 13).symm.trans h0_) (by decide), fun _ _ => (All.row_i ALL0.out hb hr), fun h0_ _ => absurd ((hoff 22 (by kernel_rfl)).symm.trans h0_) (by decide), fun h0_ _ => absurd ((hoff 23 (by kernel_rfl)).symm.trans h0_) (by decide), fun h0_ _ => absurd ((hoff 25 (by kernel_rfl)).symm.trans h0_) (by decide), fun h0_ => absurd ((hoff 28 (by kernel_rfl)).symm.trans h0_) (by decide), fun _ => blk_below (BX.out) hb, blk_below (BT.out) hb, fun h0_ _ => absurd ((hoff 24 (by kernel_rfl)).symm.trans h0_) (by decide)⟩
      refine steps_cons ?_ ?_
      · rintro b a w' ⟨r13, r22, r23, r25, b24, ha, Q_ALL0, Q_ALL1, Q_ALL2, Q_ALL3, Q_ALL4, Q_ALL5, Q_BX, Q_BT, Q_BK24⟩ hb_ hon hoff
        refine ⟨_, rfl, fun K hK => ?_⟩
        have e48 : a.tmps[48]? = some (.slice (some ⟨gT, 0, none⟩) 6 cT) := by rw [ha]; exact (putSel_off rfl).trans rfl
        replace ha := Aside0.mk ha
        have BX := Aside0.mk (Q_BX (hoff 28 (by kernel_rfl)))
        have BT := Aside0.mk Q_BT
        refine value_ (w1 := w') (v := .pointer (some ⟨gT, 3, none⟩)) (by rfl) rfl ?_ ?_
        · go_simp
          (try simp only [i64_w])
          try rfl
        refine hK.out _ _ ⟨r13, r22, r23, r25, b24, (by rw [ha.out]; exact putSel_upk 6 hb_ rfl rfl rfl), Q_ALL0, Q_ALL1, fun h0_ _ => absurd ((hoff 22 (by kernel_rfl)).symm.trans h0_) (by decide), fun h0_ _ => absurd ((hoff 23 (by kernel_rfl)).symm.trans h0_) (by decide), fun h0_ _ => absurd ((hoff 25 (by kernel_rfl)).symm.trans h0_) (by decide), fun h0_ => absurd ((hoff 28 (by kernel_rfl)).symm.trans h0_) (by decide), Q_BX, Q_BT, fun h0_ _ => absurd ((hoff 24 (by kernel_rfl)).symm.trans h0_) (by decide)⟩
      refine steps_cons ?_ ?_
      · rintro b a w' ⟨r13, r22, r23, r25, b24, ha, Q_ALL0, Q_ALL1, Q_ALL2, Q_ALL3, Q_ALL4, Q_ALL5, Q_BX, Q_BT, Q_BK24⟩ hb_ hon hoff
        refine ⟨_, rfl, fun K hK => ?_⟩
        have e49 : a.tmps[49]? = some (.pointer (some ⟨gT, 3, none⟩)) := by rw [ha]; exact putSel_on (e := (15, 49, .pointer (some ⟨gT, 3, none⟩))) 6 rfl rfl (hon 15 (by kernel_rfl)) rfl
        replace ha := Aside0.mk ha
        have BX := Aside0.mk (Q_BX (hoff 28 (by kernel_rfl)))
        have BT := Aside0.mk Q_BT
        have hc_ : w'.cell? ⟨gT, 3, none⟩ = some (.int .i64 t3) := (blk_cell BT.out 3).trans HT3.out
        refine value_ (w1 := w') (v := .int .i64 t3) (by rfl) rfl ?_ ?_
        · go_simp
          (try simp only [i64_w])
          try rfl
        refine hK.out _ _ ⟨r13, r22, r23, r25, b24, (by rw [ha.out]; exact putSel_upk 7 hb_ rfl rfl rfl), Q_ALL0, Q_ALL1, fun h0_ _ => absurd ((hoff 22 (by kernel_rfl)).symm.trans h0_) (by decide), fun h0_ _ => absurd ((hoff 23 (by kernel_rfl)).symm.trans h0_) (by decide), fun h0_ _ => absurd ((hoff 25 (by kernel_rfl)).symm.trans h0_) (by decide), fun h0_ => absurd ((hoff 28 (by kernel_rfl)).symm.trans h0_) (by decide), Q_BX, Q_BT, fun h0_ _ => absurd ((hoff 24 (by kernel_rfl)).symm.trans h0_) (by decide)⟩
      refine steps_cons ?_ ?_
      · rintro b a w' ⟨r13, r22, r23, r25, b24, ha, Q_ALL0, Q_ALL1, Q_ALL2, Q_ALL3, Q_ALL4, Q_ALL5, Q_BX, Q_BT, Q_BK24⟩ hb_ hon hoff
        refine ⟨_, rfl, fun K hK => ?_⟩
        have e53 : a.tmps[53]? = some (.pointer (some ⟨gC, 0, none⟩)) := by rw [ha]; exact (putSel_off rfl).trans rfl
        replace ha := Aside0.mk ha
        have BX := Aside0.mk (Q_BX (hoff 28 (by kernel_rfl)))
        have BT := Aside0.mk Q_BT
        have hc_ : w'.cell? ⟨gC, 0, none⟩ = some (.int .i64 m) := (blk_cell BX.out 0).trans rfl
        refine value_ (w1 := w') (v := .int .i64 m) (by rfl) rfl ?_ ?_
        · go_simp
          (try simp only [i64_w])
          try rfl
        refine hK.out _ _ ⟨r13, r22, r23, r25, b24, (by rw [ha.out]; exact putSel_upk 8 hb_ rfl rfl rfl), Q_ALL0, Q_ALL1, fun h0_ _ => absurd ((hoff 22 (by kernel_rfl)).symm.trans h0_) (by decide), fun h0_ _ => absurd ((hoff 23 (by kernel_rfl)).symm.trans h0_) (by decide), fun h0_ _ => absurd ((hoff 25 (by kernel_rfl)).symm.trans h0_) (by decide), fun h0_ => absurd ((hoff 28 (by kernel_rfl)).symm.trans h0_) (by decide), Q_BX, Q_BT, fun h0_ _ => absurd ((hoff 24 (by kernel_rfl)).symm.trans h0_) (by decide)⟩
      refine steps_cons ?_ ?_
      · rintro b a w' ⟨r13, r22, r23, r25, b24, ha, Q_ALL0, Q_ALL1, Q_ALL2, Q_ALL3, Q_ALL4, Q_ALL5, Q_BX, Q_BT, Q_BK24⟩ hb_ hon hoff
        refine ⟨_, rfl, fun K hK => ?_⟩
        have e54 : a.tmps[54]? = some (.int .i64 m) := by rw [ha]; exact putSel_on (e := (20, 54, .int .i64 m)) 8 rfl rfl (hon 20 (by kernel_rfl)) rfl
        replace ha := Aside0.mk ha
        have BX := Aside0.mk (Q_BX (hoff 28 (by kernel_rfl)))
        have BT := Aside0.mk Q_BT
        refine value_ (w1 := w') (v := .int .i64 (wrap64 (m + 1))) (by rfl) rfl ?_ ?_
        · go_simp
          (try simp only [i64_w])
          try rfl
        refine hK.out _ _ ⟨r13, r22, r23, r25, b24, (by rw [ha.out]; exact putSel_upk 9 hb_ rfl rfl rfl), Q_ALL0, Q_ALL1, fun h0_ _ => absurd ((hoff 22 (by kernel_rfl)).symm.trans h0_) (by decide), fun h0_ _ => absurd ((hoff 23 (by kernel_rfl)).symm.trans h0_) (by decide), fun h0_ _ => absurd ((hoff 25 (by kernel_rfl)).symm.trans h0_) (by decide), fun h0_ => absurd ((hoff 28 (by kernel_rfl)).symm.trans h0_) (by decide), Q_BX, Q_BT, fun h0_ _ => absurd ((hoff 24 (by kernel_rfl)).symm.trans h0_) (by decide)⟩
      refine steps_cons ?_ ?_
      · rintro b a w' ⟨r13, r22, r23, r25, b24, ha, Q_ALL0, Q_ALL1, Q_ALL2, Q_ALL3, Q_ALL4, Q_ALL5, Q_BX, Q_BT, Q_BK24⟩ hb_ hon hoff
        refine ⟨_, rfl, fun K hK => ?_⟩
        have e50 : a.tmps[50]? = some (.int .i64 t3) := by rw [ha]; exact putSel_on (e := (16, 50, .int .i64 t3)) 7 rfl rfl (hon 16 (by kernel_rfl)) rfl
        have e55 : a.tmps[55]? = some (.int .i64 (wrap64 (m + 1))) := by rw [ha]; exact putSel_on (e := (21, 55, .int .i64 (wrap64 (m + 1)))) 9 rfl rfl (hon 21 (by kernel_rfl)) rfl
        replace ha := Aside0.mk ha
        have ALL1 := Aside0.mk (Q_ALL1 (hon 13 (by kernel_rfl)) hb_)
        have BX := Aside0.mk (Q_BX (hoff 28 (by kernel_rfl)))
        have BT := Aside0.mk Q_BT
        refine goes_ Try.func53 (by kernel_rfl) rfl #[.int .i64 t3, .int .i64 (wrap64 (m + 1))] (by rfl) rfl rfl (by simp only [List.map_toArray, List.map_cons, List.map_nil, eval_of e50, eval_of e55]) ?_
        refine (spec_l02Same.calls 2000 t3 (wrap64 (m + 1)) (List.replicate (m + 1).toNat t3) _ (same_f t3 m HM.out)).mono ?_
        rintro e w_ ⟨v_, rfl, hr, hb⟩
        refine ⟨_, rfl, ?_⟩
        refine hK.out _ _ ⟨r13, v_, r23, r25, b24, (by rw [ha.out]; exact putSel_upk 10 hb_ rfl rfl rfl), fun h0_ => absurd ((hon 13 (by kernel_rfl)).symm.trans h0_) (by decide), fun _ h1_ => absurd ((up_self b 22).symm.trans h1_) (by decide), fun _ _ => (All.row_l ALL1.out hb hr), fun h0_ _ => absurd ((hoff 23 (by kernel_rfl)).symm.trans h0_) (by decide), fun h0_ _ => absurd ((hoff 25 (by kernel_rfl)).symm.trans h0_) (by decide), fun h0_ => absurd ((hoff 28 (by kernel_rfl)).symm.trans h0_) (by decide), fun _ => blk_below (BX.out) hb, blk_below (BT.out) hb, fun h0_ _ => absurd ((hoff 24 (by kernel_rfl)).symm.trans h0_) (by decide)⟩
      refine steps_cons ?_ ?_
      · rintro b a w' ⟨r13, r22, r23, r25, b24, ha, Q_ALL0, Q_ALL1, Q_ALL2, Q_ALL3, Q_ALL4, Q_ALL5, Q_BX, Q_BT, Q_BK24⟩ hb_ hon hoff
        refine ⟨_, rfl, fun K hK => ?_⟩
        have e47 : a.tmps[47]? = some (r13) := by rw [ha]; exact putSel_on (e := (13, 47, r13)) 5 rfl rfl (hon 13 (by kernel_rfl)) rfl
        have e56 : a.tmps[56]? = some (r22) := by rw [ha]; exact putSel_on (e := (22, 56, r22)) 10 rfl rfl (hon 22 (by kernel_rfl)) rfl
        replace ha := Aside0.mk ha
        have ALL2 := Aside0.mk (Q_ALL2 (hon 22 (by kernel_rfl)) hb_)
        have BX := Aside0.mk (Q_BX (hoff 28 (by kernel_rfl)))
        have BT := Aside0.mk Q_BT
        obtain ⟨Ai_, ni_, ci_, hi_⟩ := (shapes ALL2.out).2.2.2.1
        obtain ⟨Al_, nl_, cl_, hl_⟩ := (shapes ALL2.out).1
        subst hi_
        subst hl_
        refine All.lit_b2 bap ALL2.out (by rfl) (N := 57) rfl ?hrun ?_
        case hrun =>
          first | (go_simp; done) | (go_simp; rfl)
        intro v_ w_ ho hfar
        refine hK.out _ _ ⟨(.slice Ai_ ni_ ci_), (.slice Al_ nl_ cl_), v_, r25, b24, (by rw [ha.out]; exact putSel_upk 11 hb_ rfl rfl rfl), fun h0_ => absurd ((hon 13 (by kernel_rfl)).symm.trans h0_) (by decide), fun _ h1_ => absurd ((hon 22 (by kernel_rfl)).symm.trans h1_) (by decide), fun _ h1_ => absurd ((up_self b 23).symm.trans h1_) (by decide), fun _ _ => ho, fun h0_ _ => absurd ((hoff 25 (by kernel_rfl)).symm.trans h0_) (by decide), fun h0_ => absurd ((hoff 28 (by kernel_rfl)).symm.trans h0_) (by decide), fun _ => hfar _ _ (BX.out), hfar _ _ (BT.out), fun h0_ _ => absurd ((hoff 24 (by kernel_rfl)).symm.trans h0_) (by decide)⟩
      refine steps_cons ?_ ?_
      · rintro b a w' ⟨r13, r22, r23, r25, b24, ha, Q_ALL0, Q_ALL1, Q_ALL2, Q_ALL3, Q_ALL4, Q_ALL5, Q_BX, Q_BT, Q_BK24⟩ hb_ hon hoff
        refine ⟨_, rfl, fun K hK => ?_⟩
        have e57 : a.tmps[57]? = some (r23) := by rw [ha]; exact putSel_on (e := (23, 57, r23)) 11 rfl rfl (hon 23 (by kernel_rfl)) rfl
        replace ha := Aside0.mk ha
        have ALL3 := Aside0.mk (Q_ALL3 (hon 23 (by kernel_rfl)) (hoff 25 (by kernel_rfl)))
        have BX := Aside0.mk (Q_BX (hoff 28 (by kernel_rfl)))
        have BT := Aside0.mk Q_BT
        obtain ⟨A_, n_, c_, hr_⟩ := (shapes ALL3.out).2.2.1
        subst hr_
        refine value_ (w1 := ?_) (v := ?_) (by rfl) rfl ?_ ?_
        rotate_left 2
        · go_simp
          constructor
          · rfl
          · rfl
        refine hK.out _ _ ⟨r13, r22, (.slice A_ n_ c_), r25, .slice (some ⟨w'.heap.size, 0, none⟩) 1 1, (by rw [ha.out]; exact putSel_upk 12 hb_ rfl rfl rfl), fun h0_ => absurd ((hon 13 (by kernel_rfl)).symm.trans h0_) (by decide), fun _ h1_ => absurd ((hon 22 (by kernel_rfl)).symm.trans h1_) (by decide), fun _ h1_ => absurd ((hon 23 (by kernel_rfl)).symm.trans h1_) (by decide), fun _ _ => All.alloc (ALL3.out) _, fun h0_ _ => absurd ((hoff 25 (by kernel_rfl)).symm.trans h0_) (by decide), fun h0_ => absurd ((hoff 28 (by kernel_rfl)).symm.trans h0_) (by decide), fun _ => blk_alloc (BX.out) _, blk_alloc (BT.out) _, fun _ _ => ⟨w'.heap.size, rfl, heap_alloc_new w' _⟩⟩
      refine steps_cons ?_ ?_
      · rintro b a w' ⟨r13, r22, r23, r25, b24, ha, Q_ALL0, Q_ALL1, Q_ALL2, Q_ALL3, Q_ALL4, Q_ALL5, Q_BX, Q_BT, Q_BK24⟩ hb_ hon hoff
        refine ⟨_, rfl, fun K hK => ?_⟩
        have e38 : a.tmps[38]? = some (vR) := by rw [ha]; exact putSel_on (e := (4, 38, vR)) 0 rfl rfl (hon 4 (by kernel_rfl)) rfl
        have e58 : a.tmps[58]? = some (b24) := by rw [ha]; exact putSel_on (e := (24, 58, b24)) 12 rfl rfl (hon 24 (by kernel_rfl)) rfl
        replace ha := Aside0.mk ha
        have ALL3 := Aside0.mk (Q_ALL3 (hon 23 (by kernel_rfl)) hb_)
        have BX := Aside0.mk (Q_BX (hoff 28 (by kernel_rfl)))
        have BT := Aside0.mk Q_BT
        have BK24 := Aside0.mk (Q_BK24 (hon 24 (by kernel_rfl)) hb_)
        obtain ⟨g_, hq_, hg_⟩ := BK24.out
        refine All.app_R bap ALL3.out (by rfl) (.tmp 38) (.tmp 58) 24 rfl Try.underlying24 bi25 (eval_of e38) g_ ((eval_of e58).trans hq_) hg_ (by have := HLR.out; omega) ?_
        intro v_ w_ ho hfar
        refine hK.out _ _ ⟨r13, r22, r23, v_, b24, (by rw [ha.out]; exact putSel_upk 13 hb_ rfl rfl rfl), fun h0_ => absurd ((hon 13 (by kernel_rfl)).symm.trans h0_) (by decide), fun _ h1_ => absurd ((hon 22 (by kernel_rfl)).symm.trans h1_) (by decide), fun _ h1_ => absurd ((hon 23 (by kernel_rfl)).symm.trans h1_) (by decide), fun _ h1_ => absurd ((up_self b 25).symm.trans h1_) (by decide), fun _ _ => ho, fun h0_ => absurd ((hoff 28 (by kernel_rfl)).symm.trans h0_) (by decide), fun _ => hfar _ _ _ (BX.out) (by decide), hfar _ _ _ (BT.out) (by decide), fun _ h1_ => absurd ((up_self b 25).symm.trans h1_) (by decide)⟩
      refine steps_cons ?_ ?_
      · rintro b a w' ⟨r13, r22, r23, r25, b24, ha, Q_ALL0, Q_ALL1, Q_ALL2, Q_ALL3, Q_ALL4, Q_ALL5, Q_BX, Q_BT, Q_BK24⟩ hb_ hon hoff
        refine ⟨_, rfl, fun K hK => ?_⟩
        have e34 : a.tmps[34]? = some (.pointer (some ⟨gC, 0, none⟩)) := by rw [ha]; exact (putSel_off rfl).trans rfl
        replace ha := Aside0.mk ha
        have ALL4 := Aside0.mk (Q_ALL4 (hon 25 (by kernel_rfl)) (hoff 28 (by kernel_rfl)))
        have BX := Aside0.mk (Q_BX (hoff 28 (by kernel_rfl)))
        have BT := Aside0.mk Q_BT
        refine value_ (w1 := w') (v := .pointer (some ⟨gC, 0, none⟩)) (by rfl) rfl ?_ ?_
        · go_simp
          (try simp only [i64_w])
          try rfl
        refine hK.out _ _ ⟨r13, r22, r23, r25, b24, (by rw [ha.out]; exact putSel_upk 14 hb_ rfl rfl rfl), fun h0_ => absurd ((hon 13 (by kernel_rfl)).symm.trans h0_) (by decide), fun _ h1_ => absurd ((hon 22 (by kernel_rfl)).symm.trans h1_) (by decide), fun _ h1_ => absurd ((hon 23 (by kernel_rfl)).symm.trans h1_) (by decide), fun _ h1_ => absurd ((hon 25 (by kernel_rfl)).symm.trans h1_) (by decide), Q_ALL4, fun h0_ => absurd ((hoff 28 (by kernel_rfl)).symm.trans h0_) (by decide), Q_BX, Q_BT, fun _ h1_ => absurd ((hon 25 (by kernel_rfl)).symm.trans h1_) (by decide)⟩
      refine steps_cons ?_ ?_
      · rintro b a w' ⟨r13, r22, r23, r25, b24, ha, Q_ALL0, Q_ALL1, Q_ALL2, Q_ALL3, Q_ALL4, Q_ALL5, Q_BX, Q_BT, Q_BK24⟩ hb_ hon hoff
        refine ⟨_, rfl, fun K hK => ?_⟩
        have e60 : a.tmps[60]? = some (.pointer (some ⟨gC, 0, none⟩)) := by rw [ha]; exact putSel_on (e := (26, 60, .pointer (some ⟨gC, 0, none⟩))) 14 rfl rfl (hon 26 (by kernel_rfl)) rfl
        replace ha := Aside0.mk ha
        have ALL4 := Aside0.mk (Q_ALL4 (hon 25 (by kernel_rfl)) (hoff 28 (by kernel_rfl)))
        have BX := Aside0.mk (Q_BX (hoff 28 (by kernel_rfl)))
        have BT := Aside0.mk Q_BT
        refine value_ (w1 := w') (v := .pointer (some ⟨gC, 4, none⟩)) (by rfl) rfl ?_ ?_
        · go_simp
          (try simp only [i64_w])
          try rfl
        refine hK.out _ _ ⟨r13, r22, r23, r25, b24, (by rw [ha.out]; exact putSel_upk 15 hb_ rfl rfl rfl), fun h0_ => absurd ((hon 13 (by kernel_rfl)).symm.trans h0_) (by decide), fun _ h1_ => absurd ((hon 22 (by kernel_rfl)).symm.trans h1_) (by decide), fun _ h1_ => absurd ((hon 23 (by kernel_rfl)).symm.trans h1_) (by decide), fun _ h1_ => absurd ((hon 25 (by kernel_rfl)).symm.trans h1_) (by decide), Q_ALL4, fun h0_ => absurd ((hoff 28 (by kernel_rfl)).symm.trans h0_) (by decide), Q_BX, Q_BT, fun _ h1_ => absurd ((hon 25 (by kernel_rfl)).symm.trans h1_) (by decide)⟩
      refine steps_cons ?_ ?_
      · rintro b a w' ⟨r13, r22, r23, r25, b24, ha, Q_ALL0, Q_ALL1, Q_ALL2, Q_ALL3, Q_ALL4, Q_ALL5, Q_BX, Q_BT, Q_BK24⟩ hb_ hon hoff
        refine ⟨_, rfl, fun K hK => ?_⟩
        have e61 : a.tmps[61]? = some (.pointer (some ⟨gC, 4, none⟩)) := by rw [ha]; exact putSel_on (e := (27, 61, .pointer (some ⟨gC, 4, none⟩))) 15 rfl rfl (hon 27 (by kernel_rfl)) rfl
        have e59 : a.tmps[59]? = some (r25) := by rw [ha]; exact putSel_on (e := (25, 59, r25)) 13 rfl rfl (hon 25 (by kernel_rfl)) rfl
        replace ha := Aside0.mk ha
        have ALL4 := Aside0.mk (Q_ALL4 (hon 25 (by kernel_rfl)) hb_)
        have BX := Aside0.mk (Q_BX hb_)
        have BT := Aside0.mk Q_BT
        obtain ⟨A_, n_, c_, hr_⟩ := (shapes ALL4.out).2.2.2.2.2.2.1
        subst hr_
        have hc_ : w'.cell? ⟨gC, 4, none⟩ = some (vR) := (blk_cell (All.boxC ALL4.out) 4).trans rfl
        have hf_ := blk_frozen (All.boxC ALL4.out) 4
        refine skip_ (w1 := ?_) (by rfl) rfl ?_ ?_
        rotate_left
        · go_simp
          rfl
        refine hK.out _ _ ⟨r13, r22, r23, (.slice A_ n_ c_), b24, (by rw [ha.out]; exact putSel_none (v := undef) rfl), fun h0_ => absurd ((hon 13 (by kernel_rfl)).symm.trans h0_) (by decide), fun _ h1_ => absurd ((hon 22 (by kernel_rfl)).symm.trans h1_) (by decide), fun _ h1_ => absurd ((hon 23 (by kernel_rfl)).symm.trans h1_) (by decide), fun _ h1_ => absurd ((hon 25 (by kernel_rfl)).symm.trans h1_) (by decide), fun _ h1_ => absurd ((up_self b 28).symm.trans h1_) (by decide), fun _ => (All.set bap ALL4.out 4 _), fun h0_ => absurd ((up_self b 28).symm.trans h0_) (by decide), (Below.heap_setCell _ _ _ _ NT.out).trans BT.out, fun _ h1_ => absurd ((hon 25 (by kernel_rfl)).symm.trans h1_) (by decide)⟩
      exact steps_nil
    · rintro b a w' hall ⟨r13, r22, r23, r25, b24, ha, Q_ALL0, Q_ALL1, Q_ALL2, Q_ALL3, Q_ALL4, Q_ALL5, Q_BX, Q_BT, Q_BK24⟩
      clear ALL0 BT BX
      have hb4_ := hall 4 (by kernel_rfl)
      have hb6_ := hall 6 (by kernel_rfl)
      have hb7_ := hall 7 (by kernel_rfl)
      have hb11_ := hall 11 (by kernel_rfl)
      have hb12_ := hall 12 (by kernel_rfl)
      have hb13_ := hall 13 (by kernel_rfl)
      have hb15_ := hall 15 (by kernel_rfl)
      have hb16_ := hall 16 (by kernel_rfl)
      have hb20_ := hall 20 (by kernel_rfl)
      have hb21_ := hall 21 (by kernel_rfl)
      have hb22_ := hall 22 (by kernel_rfl)
      have hb23_ := hall 23 (by kernel_rfl)
      have hb24_ := hall 24 (by kernel_rfl)
      have hb25_ := hall 25 (by kernel_rfl)
      have hb26_ := hall 26 (by kernel_rfl)
      have hb27_ := hall 27 (by kernel_rfl)
      have hb28_ := hall 28 (by kernel_rfl)
      subst ha
      simp only [putSel, hb4_, hb6_, hb7_, hb11_, hb12_, hb13_, hb15_, hb16_, hb20_, hb21_, hb22_, hb23_, hb24_, hb25_, hb26_, hb27_, hb28_, if_true, Act.put, List.setIfInBounds_toArray, List.set_cons_zero, List.set_cons_succ]
      clear Q_ALL0
      clear Q_ALL1
      clear Q_ALL2
      clear Q_ALL3
      clear Q_ALL4
      have ALL5 := Aside0.mk (Q_ALL5 hb28_)
      clear Q_ALL5
      clear Q_BX
      have BT := Aside0.mk Q_BT
      clear Q_BT
      clear Q_BK24
      clear hall hb4_ hb6_ hb7_ hb11_ hb12_ hb13_ hb15_ hb16_ hb20_ hb21_ hb22_ hb23_ hb24_ hb25_ hb26_ hb27_ hb28_
      have HO := Aside0.mk ALL5.out
      clear ALL5
      go_wp2
      refine start_ (n := 17) (S := fun w' => True) (ds := []) #[false, false, false, false, false, false, false, false, false, false, false, false, false, false, false, false, false] (by kernel_rfl) rfl rfl trivial (fun hHeld => ?_)
      refine with_tabW plain.tab3 plain.bits3 (fun HT_ HW_ => ?_)
      have ALL0 := Aside0.mk (All.drew HO.out)
      have BX := Aside0.mk (All.boxC ALL0.out)
      have n_ := Aside0.mk (blk_drew BT.out)
      clear HO BT
      have BT := n_
      clear n_
      generalize World.drew _ = wD at ALL0 BX BT hHeld ⊢
      refine pure_ (i := 0) (N := some 62) (v := ?_) (a' := ?_) #[true, false, false, false, false, false, false, false, false, false, false, false, false, false, false, false, false] rfl rfl (any_of HT_.out (by kernel_rfl)) (fun _ _ _ h => h) (Or.inl ⟨by rfl, ?_⟩) ?_ ?_
      rotate_left
      · intro w'
        go_simp
        with_reducible rfl
      rotate_left
      · simp only [Act.put, List.setIfInBounds_toArray, List.set_cons_zero, List.set_cons_succ, i64_w, i32_w]
        rfl
      refine pure_ (i := 1) (N := some 63) (v := ?_) (a' := ?_) #[true, true, false, false, false, false, false, false, false, false, false, false, false, false, false, false, false] rfl rfl (any_of HT_.out (by kernel_rfl)) (fun _ _ _ h => h) (Or.inl ⟨by rfl, ?_⟩) ?_ ?_
      rotate_left
      · intro w'
        go_simp
        with_reducible rfl
      rotate_left
      · simp only [Act.put, List.setIfInBounds_toArray, List.set_cons_zero, List.set_cons_succ, i64_w, i32_w]
        rfl
      refine pure_ (i := 2) (N := some 64) (v := ?_) (a' := ?_) #[true, true, true, false, false, false, false, false, false, false, false, false, false, false, false, false, false] rfl rfl (any_of HT_.out (by kernel_rfl)) (fun _ _ _ h => h) (Or.inl ⟨by rfl, ?_⟩) ?_ ?_
      rotate_left
      · intro w'
        go_simp
        with_reducible rfl
      rotate_left
      · simp only [Act.put, List.setIfInBounds_toArray, List.set_cons_zero, List.set_cons_succ, i64_w, i32_w]
        rfl
      refine pure_ (i := 3) (N := some 65) (v := ?_) (a' := ?_) #[true, true, true, true, false, false, false, false, false, false, false, false, false, false, false, false, false] rfl rfl (any_of HT_.out (by kernel_rfl)) (fun _ _ _ h => h) (Or.inl ⟨by rfl, ?_⟩) ?_ ?_
      rotate_left
      · intro w'
        go_simp
        with_reducible rfl
      rotate_left
      · simp only [Act.put, List.setIfInBounds_toArray, List.set_cons_zero, List.set_cons_succ, i64_w, i32_w]
        rfl
      refine pure_ (i := 5) (N := some 67) (v := ?_) (a' := ?_) #[true, true, true, true, false, true, false, false, false, false, false, false, false, false, false, false, false] rfl rfl (any_of HT_.out (by kernel_rfl)) (fun _ _ _ h => h) (Or.inl ⟨by rfl, ?_⟩) ?_ ?_
      rotate_left
      · intro w'
        go_simp
        with_reducible rfl
      rotate_left
      · simp only [Act.put, List.setIfInBounds_toArray, List.set_cons_zero, List.set_cons_succ, i64_w, i32_w]
        rfl
      refine pure_ (i := 8) (N := some 70) (v := ?_) (a' := ?_) #[true, true, true, true, false, true, false, false, true, false, false, false, false, false, false, false, false] rfl rfl (any_of HT_.out (by kernel_rfl)) (fun _ _ _ h => h) (Or.inl ⟨by rfl, ?_⟩) ?_ ?_
      rotate_left
      · intro w'
        go_simp
        with_reducible rfl
      rotate_left
      · simp only [Act.put, List.setIfInBounds_toArray, List.set_cons_zero, List.set_cons_succ, i64_w, i32_w]
        rfl
      refine inv_at [4, 6, 7, 9, 10, 11, 12, 13, 14, 15, 16] (fun a0_ b a w' => ∃ (r11 : Value) (r13 : Value) (b12 : Value), a = putSel a0_ b [(4, 66, vI), (6, 68, .pointer (some ⟨gT, 4, none⟩)), (7, 69, .int .i64 t4), (9, 71, .pointer (some ⟨gT, 5, none⟩)), (10, 72, .int .i64 t5), (11, 73, r11), (12, 74, b12), (13, 75, r13), (14, 76, .pointer (some ⟨gC, 0, none⟩)), (15, 77, .pointer (some ⟨gC, 5, none⟩))] ∧ (b 11 = false → AllB w0 w' gC gZ (cellsI m st (.slice A13 n13 c13) r15 r25 vI) cZ' (.slice A13 n13 c13) r15 r25 vI (.slice none 0 0) (.slice none 0 0) (.slice none 0 0) (.slice none 0 0) (LA ++ [ac]) (LC ++ [[⟨t0, 0⟩, ⟨t1, 0⟩]]) (LR ++ [[(List.replicate (m + 1).toNat t2), (List.replicate (m + 1).toNat t3)]]) LI [] [] [] []) ∧ (b 11 = true → b 13 = false → AllB w0 w' gC gZ (cellsI m st (.slice A13 n13 c13) r15 r25 vI) cZ' (.slice A13 n13 c13) r15 r25 vI (.slice none 0 0) (.slice none 0 0) r11 (.slice none 0 0) (LA ++ [ac]) (LC ++ [[⟨t0, 0⟩, ⟨t1, 0⟩]]) (LR ++ [[(List.replicate (m + 1).toNat t2), (List.replicate (m + 1).toNat t3)]]) LI [] [] [t4, t5] []) ∧ (b 13 = true → b 16 = false → AllB w0 w' gC gZ (cellsI m st (.slice A13 n13 c13) r15 r25 vI) cZ' (.slice A13 n13 c13) r15 r25 r13 (.slice none 0 0) (.slice none 0 0) (.slice none 0 0) (.slice none 0 0) (LA ++ [ac]) (LC ++ [[⟨t0, 0⟩, ⟨t1, 0⟩]]) (LR ++ [[(List.replicate (m + 1).toNat t2), (List.replicate (m + 1).toNat t3)]]) (LI ++ [[t4, t5]]) [] [] [] []) ∧ (b 16 = true → AllB w0 w' gC gZ (cellsI m st (.slice A13 n13 c13) r15 r25 r13) cZ' (.slice A13 n13 c13) r15 r25 r13 (.slice none 0 0) (.slice none 0 0) (.slice none 0 0) (.slice none 0 0) (LA ++ [ac]) (LC ++ [[⟨t0, 0⟩, ⟨t1, 0⟩]]) (LR ++ [[(List.replicate (m + 1).toNat t2), (List.replicate (m + 1).toNat t3)]]) (LI ++ [[t4, t5]]) [] [] [] []) ∧ (b 16 = false → w'.heap[gC]? = some (.cells (cellsI m st (.slice A13 n13 c13) r15 r25 vI) 27 (0, 0))) ∧ (w'.heap[gT]? = some (.cells csT 2 (0, 0))) ∧ (b 12 = true → b 13 = false → ∃ g_ : Nat, b12 = .slice (some ⟨g_, 0, none⟩) 1 1 ∧ w'.heap[g_]? = some (.cells [r11].toArray 49 (0, 0)))) HT_.out HW_.out (by kernel_rfl) (by kernel_rfl) ?_ ?_ ?_
      · exact ⟨.bool false, .bool false, .bool false, by simp only [putSel, Bool.false_eq_true, if_false], fun _ => ALL0.out, fun h_ => absurd h_ (by decide), fun h_ => absurd h_ (by decide), fun h_ => absurd h_ (by decide), fun _ => BX.out, BT.out, fun h_ => absurd h_ (by decide)⟩
      · skip
        clear ALL0 BT BX
        refine steps_cons ?_ ?_
        · rintro b a w' ⟨r11, r13, b12, ha, Q_ALL0, Q_ALL1, Q_ALL2, Q_ALL3, Q_BX, Q_BT, Q_BK12⟩ hb_ hon hoff
          refine ⟨_, rfl, fun K hK => ?_⟩
          have e65 : a.tmps[65]? = some (.pointer (some ⟨gC, 5, none⟩)) := by rw [ha]; exact (putSel_off rfl).trans rfl
          replace ha := Aside0.mk ha
          have BX := Aside0.mk (Q_BX (hoff 16 (by kernel_rfl)))
          have BT := Aside0.mk Q_BT
          have hc_ : w'.cell? ⟨gC, 5, none⟩ = some (vI) := (blk_cell BX.out 5).trans rfl
          refine value_ (w1 := w') (v := vI) (by rfl) rfl ?_ ?_
          · go_simp
            (try simp only [i64_w])
            try rfl
          refine hK.out _ _ ⟨r11, r13, b12, (by rw [ha.out]; exact putSel_upk 0 hb_ rfl rfl rfl), Q_ALL0, Q_ALL1, fun h0_ _ => absurd ((hoff 13 (by kernel_rfl)).symm.trans h0_) (by decide), fun h0_ => absurd ((hoff 16 (by kernel_rfl)).symm.trans h0_) (by decide), Q_BX, Q_BT, Q_BK12⟩
        refine steps_cons ?_ ?_
        · rintro b a w' ⟨r11, r13, b12, ha, Q_ALL0, Q_ALL1, Q_ALL2, Q_ALL3, Q_BX, Q_BT, Q_BK12⟩ hb_ hon hoff
          refine ⟨_, rfl, fun K hK => ?_⟩
          have e67 : a.tmps[67]? = some (.slice (some ⟨gT, 0, none⟩) 6 cT) := by rw [ha]; exact (putSel_off rfl).trans rfl
          replace ha := Aside0.mk ha
          have ALL0 := Aside0.mk (Q_ALL0 (hoff 11 (by kernel_rfl)))
          have BX := Aside0.mk (Q_BX (hoff 16 (by kernel_rfl)))
          have BT := Aside0.mk Q_BT
          refine value_ (w1 := w') (v := .pointer (some ⟨gT, 4, none⟩)) (by rfl) rfl ?_ ?_
          · go_simp
            (try simp only [i64_w])
            try rfl
          refine hK.out _ _ ⟨r11, r13, b12, (by rw [ha.out]; exact putSel_upk 1 hb_ rfl rfl rfl), Q_ALL0, fun h0_ _ => absurd ((hoff 11 (by kernel_rfl)).symm.trans h0_) (by decide), fun h0_ _ => absurd ((hoff 13 (by kernel_rfl)).symm.trans h0_) (by decide), fun h0_ => absurd ((hoff 16 (by kernel_rfl)).symm.trans h0_) (by decide), Q_BX, Q_BT, fun h0_ _ => absurd ((hoff 12 (by kernel_rfl)).symm.trans h0_) (by decide)⟩
        refine steps_cons ?_ ?_
        · rintro b a w' ⟨r11, r13, b12, ha, Q_ALL0, Q_ALL1, Q_ALL2, Q_ALL3, Q_BX, Q_BT, Q_BK12⟩ hb_ hon hoff
          refine ⟨_, rfl, fun K hK => ?_⟩
          have e68 : a.tmps[68]? = some (.pointer (some ⟨gT, 4, none⟩)) := by rw [ha]; exact putSel_on (e := (6, 68, .pointer (some ⟨gT, 4, none⟩))) 1 rfl rfl (hon 6 (by kernel_rfl)) rfl
          replace ha := Aside0.mk ha
          have ALL0 := Aside0.mk (Q_ALL0 (hoff 11 (by kernel_rfl)))
          have BX := Aside0.mk (Q_BX (hoff 16 (by kernel_rfl)))
          have BT := Aside0.mk Q_BT
          have hc_ : w'.cell? ⟨gT, 4, none⟩ = some (.int .i64 t4) := (blk_cell BT.out 4).trans HT4.out
          refine value_ (w1 := w') (v := .int .i64 t4) (by rfl) rfl ?_ ?_
          · go_simp
            (try simp only [i64_w])
            try rfl
          refine hK.out _ _ ⟨r11, r13, b12, (by rw [ha.out]; exact putSel_upk 2 hb_ rfl rfl rfl), Q_ALL0, fun h0_ _ => absurd ((hoff 11 (by kernel_rfl)).symm.trans h0_) (by decide), fun h0_ _ => absurd ((hoff 13 (by kernel_rfl)).symm.trans h0_) (by decide), fun h0_ => absurd ((hoff 16 (by kernel_rfl)).symm.trans h0_) (by decide), Q_BX, Q_BT, fun h0_ _ => absurd ((hoff 12 (by kernel_rfl)).symm.trans h0_) (by decide)⟩
        refine steps_cons ?_ ?_
        · rintro b a w' ⟨r11, r13, b12, ha, Q_ALL0, Q_ALL1, Q_ALL2, Q_ALL3, Q_BX, Q_BT, Q_BK12⟩ hb_ hon hoff
          refine ⟨_, rfl, fun K hK => ?_⟩
          have e70 : a.tmps[70]? = some (.slice (some ⟨gT, 0, none⟩) 6 cT) := by rw [ha]; exact (putSel_off rfl).trans rfl
          replace ha := Aside0.mk ha
          have ALL0 := Aside0.mk (Q_ALL0 (hoff 11 (by kernel_rfl)))
          have BX := Aside0.mk (Q_BX (hoff 16 (by kernel_rfl)))
          have BT := Aside0.mk Q_BT
          refine value_ (w1 := w') (v := .pointer (some ⟨gT, 5, none⟩)) (by rfl) rfl ?_ ?_
          · go_simp
            (try simp only [i64_w])
            try rfl
          refine hK.out _ _ ⟨r11, r13, b12, (by rw [ha.out]; exact putSel_upk 3 hb_ rfl rfl rfl), Q_ALL0, fun h0_ _ => absurd ((hoff 11 (by kernel_rfl)).symm.trans h0_) (by decide), fun h0_ _ => absurd ((hoff 13 (by kernel_rfl)).symm.trans h0_) (by decide), fun h0_ => absurd ((hoff 16 (by kernel_rfl)).symm.trans h0_) (by decide), Q_BX, Q_BT, fun h0_ _ => absurd ((hoff 12 (by kernel_rfl)).symm.trans h0_) (by decide)⟩
        refine steps_cons ?_ ?_
        · rintro b a w' ⟨r11, r13, b12, ha, Q_ALL0, Q_ALL1, Q_ALL2, Q_ALL3, Q_BX, Q_BT, Q_BK12⟩ hb_ hon hoff
          refine ⟨_, rfl, fun K hK => ?_⟩
          have e71 : a.tmps[71]? = some (.pointer (some ⟨gT, 5, none⟩)) := by rw [ha]; exact putSel_on (e := (9, 71, .pointer (some ⟨gT, 5, none⟩))) 3 rfl rfl (hon 9 (by kernel_rfl)) rfl
          replace ha := Aside0.mk ha
          have ALL0 := Aside0.mk (Q_ALL0 (hoff 11 (by kernel_rfl)))
          have BX := Aside0.mk (Q_BX (hoff 16 (by kernel_rfl)))
          have BT := Aside0.mk Q_BT
          have hc_ : w'.cell? ⟨gT, 5, none⟩ = some (.int .i64 t5) := (blk_cell BT.out 5).trans HT5.out
          refine value_ (w1 := w') (v := .int .i64 t5) (by rfl) rfl ?_ ?_
          · go_simp
            (try simp only [i64_w])
            try rfl
          refine hK.out _ _ ⟨r11, r13, b12, (by rw [ha.out]; exact putSel_upk 4 hb_ rfl rfl rfl), Q_ALL0, fun h0_ _ => absurd ((hoff 11 (by kernel_rfl)).symm.trans h0_) (by decide), fun h0_ _ => absurd ((hoff 13 (by kernel_rfl)).symm.trans h0_) (by decide), fun h0_ => absurd ((hoff 16 (by kernel_rfl)).symm.trans h0_) (by decide), Q_BX, Q_BT, fun h0_ _ => absurd ((hoff 12 (by kernel_rfl)).symm.trans h0_) (by decide)⟩
        refine steps_cons ?_ ?_
        · rintro b a w' ⟨r11, r13, b12, ha, Q_ALL0, Q_ALL1, Q_ALL2, Q_ALL3, Q_BX, Q_BT, Q_BK12⟩ hb_ hon hoff
          refine ⟨_, rfl, fun K hK => ?_⟩
          have e69 : a.tmps[69]? = some (.int .i64 t4) := by rw [ha]; exact putSel_on (e := (7, 69, .int .i64 t4)) 2 rfl rfl (hon 7 (by kernel_rfl)) rfl
          have e72 : a.tmps[72]? = some (.int .i64 t5) := by rw [ha]; exact putSel_on (e := (10, 72, .int .i64 t5)) 4 rfl rfl (hon 10 (by kernel_rfl)) rfl
          replace ha := Aside0.mk ha
          have ALL0 := Aside0.mk (Q_ALL0 hb_)
          have BX := Aside0.mk (Q_BX (hoff 16 (by kernel_rfl)))
          have BT := Aside0.mk Q_BT
          refine All.litx_i bap ALL0.out (by rfl) (N := 73) rfl [t4, t5] [.int .i64 t4, .int .i64 t5] ?hrun (Reps.one rfl (Reps.one rfl (Reps.none _ _))) (by simp) ?_
          case hrun =>
            first | (go_simp; done) | (go_simp; rfl)
          intro v_ w_ ho hfar
          refine hK.out _ _ ⟨v_, r13, b12, (by rw [ha.out]; exact putSel_upk 5 hb_ rfl rfl rfl), fun h0_ => absurd ((up_self b 11).symm.trans h0_) (by decide), fun _ _ => ho, fun h0_ _ => absurd ((hoff 13 (by kernel_rfl)).symm.trans h0_) (by decide), fun h0_ => absurd ((hoff 16 (by kernel_rfl)).symm.trans h0_) (by decide), fun _ => hfar _ _ (BX.out), hfar _ _ (BT.out), fun h0_ _ => absurd ((hoff 12 (by kernel_rfl)).symm.trans h0_) (by decide)⟩
        refine steps_cons ?_ ?_
        · rintro b a w' ⟨r11, r13, b12, ha, Q_ALL0, Q_ALL1, Q_ALL2, Q_ALL3, Q_BX, Q_BT, Q_BK12⟩ hb_ hon hoff
          refine ⟨_, rfl, fun K hK => ?_⟩
          have e73 : a.tmps[73]? = some (r11) := by rw [ha]; exact putSel_on (e := (11, 73, r11)) 5 rfl rfl (hon 11 (by kernel_rfl)) rfl
          replace ha := Aside0.mk ha
          have ALL1 := Aside0.mk (Q_ALL1 (hon 11 (by kernel_rfl)) (hoff 13 (by kernel_rfl)))
          have BX := Aside0.mk (Q_BX (hoff 16 (by kernel_rfl)))
          have BT := Aside0.mk Q_BT
          obtain ⟨A_, n_, c_, hr_⟩ := (shapes ALL1.out).2.2.2.1
          subst hr_
          refine value_ (w1 := ?_) (v := ?_) (by rfl) rfl ?_ ?_
          rotate_left 2
          · go_simp
            constructor
            · rfl
            · rfl
          refine hK.out _ _ ⟨(.slice A_ n_ c_), r13, .slice (some ⟨w'.heap.size, 0, none⟩) 1 1, (by rw [ha.out]; exact putSel_upk 6 hb_ rfl rfl rfl), fun h0_ => absurd ((hon 11 (by kernel_rfl)).symm.trans h0_) (by decide), fun _ _ => All.alloc (ALL1.out) _, fun h0_ _ => absurd ((hoff 13 (by kernel_rfl)).symm.trans h0_) (by decide), fun h0_ => absurd ((hoff 16 (by kernel_rfl)).symm.trans h0_) (by decide), fun _ => blk_alloc (BX.out) _, blk_alloc (BT.out) _, fun _ _ => ⟨w'.heap.size, rfl, heap_alloc_new w' _⟩⟩
        refine steps_cons ?_ ?_
        · rintro b a w' ⟨r11, r13, b12, ha, Q_ALL0, Q_ALL1, Q_ALL2, Q_ALL3, Q_BX, Q_BT, Q_BK12⟩ hb_ hon hoff
          refine ⟨_, rfl, fun K hK => ?_⟩
          have e66 : a.tmps[66]? = some (vI) := by rw [ha]; exact putSel_on (e := (4, 66, vI)) 0 rfl rfl (hon 4 (by kernel_rfl)) rfl
          have e74 : a.tmps[74]? = some (b12) := by rw [ha]; exact putSel_on (e := (12, 74, b12)) 6 rfl rfl (hon 12 (by kernel_rfl)) rfl
          replace ha := Aside0.mk ha
          have ALL1 := Aside0.mk (Q_ALL1 (hon 11 (by kernel_rfl)) hb_)
          have BX := Aside0.mk (Q_BX (hoff 16 (by kernel_rfl)))
          have BT := Aside0.mk Q_BT
          have BK12 := Aside0.mk (Q_BK12 (hon 12 (by kernel_rfl)) hb_)
          obtain ⟨g_, hq_, hg_⟩ := BK12.out
          refine All.app_I bap ALL1.out (by rfl) (.tmp 66) (.tmp 74) 25 rfl Try.underlying25 bi49 (eval_of e66) g_ ((eval_of e74).trans hq_) hg_ (by have := HLI.out; omega) ?_
          intro v_ w_ ho hfar
          refine hK.out _ _ ⟨r11, v_, b12, (by rw [ha.out]; exact putSel_upk 7 hb_ rfl rfl rfl), fun h0_ => absurd ((hon 11 (by kernel_rfl)).symm.trans h0_) (by decide), fun _ h1_ => absurd ((up_self b 13).symm.trans h1_) (by decide), fun _ _ => ho, fun h0_ => absurd ((hoff 16 (by kernel_rfl)).symm.trans h0_) (by decide), fun _ => hfar _ _ _ (BX.out) (by decide), hfar _ _ _ (BT.out) (by decide), fun _ h1_ => absurd ((up_self b 13).symm.trans h1_) (by decide)⟩
        refine steps_cons ?_ ?_
        · rintro b a w' ⟨r11, r13, b12, ha, Q_ALL0, Q_ALL1, Q_ALL2, Q_ALL3, Q_BX, Q_BT, Q_BK12⟩ hb_ hon hoff
          refine ⟨_, rfl, fun K hK => ?_⟩
          have e62 : a.tmps[62]? = some (.pointer (some ⟨gC, 0, none⟩)) := by rw [ha]; exact (putSel_off rfl).trans rfl
          replace ha := Aside0.mk ha
          have ALL2 := Aside0.mk (Q_ALL2 (hon 13 (by kernel_rfl)) (hoff 16 (by kernel_rfl)))
          have BX := Aside0.mk (Q_BX (hoff 16 (by kernel_rfl)))
          have BT := Aside0.mk Q_BT
          refine value_ (w1 := w') (v := .pointer (some ⟨gC, 0, none⟩)) (by rfl) rfl ?_ ?_
          · go_simp
            (try simp only [i64_w])
            try rfl
          refine hK.out _ _ ⟨r11, r13, b12, (by rw [ha.out]; exact putSel_upk 8 hb_ rfl rfl rfl), fun h0_ => absurd ((hon 11 (by kernel_rfl)).symm.trans h0_) (by decide), fun _ h1_ => absurd ((hon 13 (by kernel_rfl)).symm.trans h1_) (by decide), Q_ALL2, fun h0_ => absurd ((hoff 16 (by kernel_rfl)).symm.trans h0_) (by decide), Q_BX, Q_BT, fun _ h1_ => absurd ((hon 13 (by kernel_rfl)).symm.trans h1_) (by decide)⟩
        refine steps_cons ?_ ?_
        · rintro b a w' ⟨r11, r13, b12, ha, Q_ALL0, Q_ALL1, Q_ALL2, Q_ALL3, Q_BX, Q_BT, Q_BK12⟩ hb_ hon hoff
          refine ⟨_, rfl, fun K hK => ?_⟩
          have e76 : a.tmps[76]? = some (.pointer (some ⟨gC, 0, none⟩)) := by rw [ha]; exact putSel_on (e := (14, 76, .pointer (some ⟨gC, 0, none⟩))) 8 rfl rfl (hon 14 (by kernel_rfl)) rfl
          replace ha := Aside0.mk ha
          have ALL2 := Aside0.mk (Q_ALL2 (hon 13 (by kernel_rfl)) (hoff 16 (by kernel_rfl)))
          have BX := Aside0.mk (Q_BX (hoff 16 (by kernel_rfl)))
          have BT := Aside0.mk Q_BT
          refine value_ (w1 := w') (v := .pointer (some ⟨gC, 5, none⟩)) (by rfl) rfl ?_ ?_
          · go_simp
            (try simp only [i64_w])
            try rfl
          refine hK.out _ _ ⟨r11, r13, b12, (by rw [ha.out]; exact putSel_upk 9 hb_ rfl rfl rfl), fun h0_ => absurd ((hon 11 (by kernel_rfl)).symm.trans h0_) (by decide), fun _ h1_ => absurd ((hon 13 (by kernel_rfl)).symm.trans h1_) (by decide), Q_ALL2, fun h0_ => absurd ((hoff 16 (by kernel_rfl)).symm.trans h0_) (by decide), Q_BX, Q_BT, fun _ h1_ => absurd ((hon 13 (by kernel_rfl)).symm.trans h1_) (by decide)⟩
        refine steps_cons ?_ ?_
        · rintro b a w' ⟨r11, r13, b12, ha, Q_ALL0, Q_ALL1, Q_ALL2, Q_ALL3, Q_BX, Q_BT, Q_BK12⟩ hb_ hon hoff
          refine ⟨_, rfl, fun K hK => ?_⟩
          have e77 : a.tmps[77]? = some (.pointer (some ⟨gC, 5, none⟩)) := by rw [ha]; exact putSel_on (e := (15, 77, .pointer (some ⟨gC, 5, none⟩))) 9 rfl rfl (hon 15 (by kernel_rfl)) rfl
          have e75 : a.tmps[75]? = some (r13) := by rw [ha]; exact putSel_on (e := (13, 75, r13)) 7 rfl rfl (hon 13 (by kernel_rfl)) rfl
          replace ha := Aside0.mk ha
          have ALL2 := Aside0.mk (Q_ALL2 (hon 13 (by kernel_rfl)) hb_)
          have BX := Aside0.mk (Q_BX hb_)
          have BT := Aside0.mk Q_BT
          obtain ⟨A_, n_, c_, hr_⟩ := (shapes ALL2.out).2.2.2.2.2.2.2
          subst hr_
          have hc_ : w'.cell? ⟨gC, 5, none⟩ = some (vI) := (blk_cell (All.boxC ALL2.out) 5).trans rfl
          have hf_ := blk_frozen (All.boxC ALL2.out) 5
          refine skip_ (w1 := ?_) (by rfl) rfl ?_ ?_
          rotate_left
          · go_simp
            rfl
          refine hK.out _ _ ⟨r11, (.slice A_ n_ c_), b12, (by rw [ha.out]; exact putSel_none (v := undef) rfl), fun h0_ => absurd ((hon 11 (by kernel_rfl)).symm.trans h0_) (by decide), fun _ h1_ => absurd ((hon 13 (by kernel_rfl)).symm.trans h1_) (by decide), fun _ h1_ => absurd ((up_self b 16).symm.trans h1_) (by decide), fun _ => (All.set bap ALL2.out 5 _), fun h0_ => absurd ((up_self b 16).symm.trans h0_) (by decide), (Below.heap_setCell _ _ _ _ NT.out).trans BT.out, fun _ h1_ => absurd ((hon 13 (by kernel_rfl)).symm.trans h1_) (by decide)⟩
        exact steps_nil
      · rintro b a w' hall ⟨r11, r13, b12, ha, Q_ALL0, Q_ALL1, Q_ALL2, Q_ALL3, Q_BX, Q_BT, Q_BK12⟩
        clear ALL0 BT BX
        have hb4_ := hall 4 (by kernel_rfl)
        have hb6_ := hall 6 (by kernel_rfl)
        have hb7_ := hall 7 (by kernel_rfl)
        have hb9_ := hall 9 (by kernel_rfl)
        have hb10_ := hall 10 (by kernel_rfl)
        have hb11_ := hall 11 (by kernel_rfl)
        have hb12_ := hall 12 (by kernel_rfl)
        have hb13_ := hall 13 (by kernel_rfl)
        have hb14_ := hall 14 (by kernel_rfl)
        have hb15_ := hall 15 (by kernel_rfl)
        have hb16_ := hall 16 (by kernel_rfl)
        subst ha
        simp only [putSel, hb4_, hb6_, hb7_, hb9_, hb10_, hb11_, hb12_, hb13_, hb14_, hb15_, hb16_, if_true, Act.put, List.setIfInBounds_toArray, List.set_cons_zero, List.set_cons_succ]
        clear Q_ALL0
        clear Q_ALL1
        clear Q_ALL2
        have ALL3 := Aside0.mk (Q_ALL3 hb16_)
        clear Q_ALL3
        clear Q_BX
        have BT := Aside0.mk Q_BT
        clear Q_BT
        clear Q_BK12
        clear hall hb4_ hb6_ hb7_ hb9_ hb10_ hb11_ hb12_ hb13_ hb14_ hb15_ hb16_
        have HO := Aside0.mk ALL3.out
        refine bodyPost_end (results_none rfl _ _ _) rfl ?_
        exact ⟨_, _, _, _, rfl, HO.out⟩
end Go.Proofs.Ytepkfigcnnfoaaa.P

