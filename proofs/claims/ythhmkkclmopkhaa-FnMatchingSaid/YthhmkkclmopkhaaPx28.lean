/- Machine side of the laws of this seat: for each Go function that they reach, a Lean function and the proof that a call comes to just its answer. Written by a program of this session. -/
import Derived.Test.YthhmkkclmopkhaaPx0
namespace Go.Proofs.Ythhmkkclmopkhaa.P
open Go.RowKit Go.Proofs.YthhmkkclmopkhaaW.PrintWords Go.Proofs.YthhmkkclmopkhaaW.PrintLast Go.Proofs.YthhmkkclmopkhaaW.PrintMore
attribute [local go_sem] max2_int min2_int max_two min_two max_three min_three max_four min_four   -- for this text's walks alone
set_option linter.unusedVariables false
set_option linter.unusedSimpArgs false

/-! ### impl_endings: function 28 -/
/-- How many words of n symbols close d open calls. -/
def tw : Nat → Nat → Int
  | 0, d => if d = 0 then 1 else 0
  | n + 1, d => 2 * tw n (d + 1) + 2 * tw n d + (if d = 0 then 0 else 2 * tw n (d - 1))
theorem tw_zero : ∀ n d, n < d → tw n d = 0
  | 0, d, h => by unfold tw; rw [if_neg (by omega)]
  | n + 1, d, h => by
    unfold tw
    rw [tw_zero n (d + 1) (by omega), tw_zero n d (by omega), if_neg (by omega), tw_zero n (d - 1) (by omega)]
    rfl
theorem tw_range : ∀ n d, 0 ≤ tw n d ∧ tw n d ≤ 6 ^ n
  | 0, d => by unfold tw; split <;> simp
  | n + 1, d => by
    have h0 := tw_range n d
    have h1 := tw_range n (d + 1)
    have h2 := tw_range n (d - 1)
    have e : (6 : Int) ^ (n + 1) = 6 * 6 ^ n := by rw [Int.pow_succ]; omega
    rw [e]
    unfold tw
    generalize (6 : Int) ^ n = B at *
    split <;> omega
theorem tw_small (n d : Nat) (h : n ≤ 20) : 0 ≤ tw n d ∧ tw n d ≤ 3656158440062976 := by
  have := tw_range n d
  have h1 : (6 : Nat) ^ n ≤ 6 ^ 20 := Nat.pow_le_pow_right (by decide) h
  have h2 : (6 : Nat) ^ 20 = 3656158440062976 := by decide
  have h3 : ((6 ^ n : Nat) : Int) = (6 : Int) ^ n := by push_cast; rfl
  omega
/-- A cell, behind the rows below n and the first d cells of row n. -/
def cell (n d i j : Nat) : Int := if (i < n ∧ i + j ≤ 20) ∨ (i = n ∧ j < d) then tw i j else 0
def tabL (n d : Nat) : List Int := (List.range 462).map fun k => cell n d (k / 22) (k % 22)
theorem tabL_len (n d : Nat) : (tabL n d).length = 462 := by simp [tabL]
theorem tabL_get (n d i j : Nat) (hi : i < 21) (hj : j < 22) : (tabL n d)[i * 22 + j]? = some (cell n d i j) := by
  unfold tabL
  rw [List.getElem?_map, List.getElem?_range (by omega)]
  simp only [Option.map_some]
  rw [show (i * 22 + j) / 22 = i by omega, show (i * 22 + j) % 22 = j by omega]
theorem tabL_set (n d : Nat) (h : n + d ≤ 20) : (tabL n d).set (n * 22 + d) (tw n d) = tabL n (d + 1) := by
  unfold tabL
  apply List.ext_getElem
  · simp
  · intro k h1 h2
    rw [List.getElem_set]
    simp only [List.getElem_map, List.getElem_range]
    by_cases e : n * 22 + d = k
    · rw [if_pos e]
      subst e
      rw [show (n * 22 + d) / 22 = n by omega, show (n * 22 + d) % 22 = d by omega]
      unfold cell
      rw [if_pos (Or.inr ⟨rfl, by omega⟩)]
    · rw [if_neg e]
      unfold cell
      have : ((k / 22 < n ∧ k / 22 + k % 22 ≤ 20) ∨ (k / 22 = n ∧ k % 22 < d)) ↔ ((k / 22 < n ∧ k / 22 + k % 22 ≤ 20) ∨ (k / 22 = n ∧ k % 22 < d + 1)) := by omega
      simp only [this]
theorem tabL_row (n d : Nat) (h : n + d = 21) : tabL n d = tabL (n + 1) 0 := by
  unfold tabL
  refine List.map_congr_left fun k hk => ?_
  unfold cell
  have : ((k / 22 < n ∧ k / 22 + k % 22 ≤ 20) ∨ (k / 22 = n ∧ k % 22 < d)) ↔ ((k / 22 < n + 1 ∧ k / 22 + k % 22 ≤ 20) ∨ (k / 22 = n + 1 ∧ k % 22 < 0)) := by omega
  simp only [this]
theorem tabL_first : (List.replicate 462 (0 : Int)).set 0 1 = tabL 1 0 := by
  unfold tabL
  apply List.ext_getElem
  · rw [List.length_set, List.length_replicate, List.length_map, List.length_range]
  · intro k h1 h2
    rw [List.getElem_set]
    simp only [List.getElem_map, List.getElem_range, List.getElem_replicate]
    unfold cell
    by_cases e : k / 22 = 0
    · rw [e]
      by_cases e2 : k = 0
      · subst e2; rfl
      · rw [if_neg (fun h => e2 h.symm)]
        by_cases e3 : k % 22 ≤ 20
        · rw [if_pos (Or.inl ⟨by omega, by omega⟩)]
          unfold tw
          rw [if_neg (by omega)]
        · rw [if_neg (by omega)]
    · rw [if_neg (by omega), if_neg (by omega)]
theorem cell_old (n d i j : Nat) (hi : i < n) (h : i + j ≤ 20) : cell n d i j = tw i j := by unfold cell; rw [if_pos (Or.inl ⟨hi, h⟩)]
/-- The whole table. -/
theorem cell_all (i j : Nat) (hi : i < 21) (h : i + j ≤ 20) : cell 21 0 i j = tw i j := cell_old 21 0 i j hi h

theorem w64 {x : Int} (h0 : -9223372036854775808 ≤ x) (h1 : x ≤ 9223372036854775807) : wrap64 x = x := by unfold wrap64; omega
def zc : Array Value := Array.replicate 462 (.int .i64 0)
def tc (n d : Nat) : Array Value := ((tabL n d).map (Value.int .i64)).toArray
theorem tabInfo : (Try.prog.info? 47).map (fun i => (i.zero, i.size)) = some (some (.agg zc), 462) := by kernel_rfl
theorem built93 : Try.prog.built 47 [] = some zc := by kernel_rfl
theorem und93 : Try.prog.underlying 47 = some (.array 21 46) := by kernel_rfl
theorem und92 : Try.prog.underlying 46 = some (.array 22 2) := by kernel_rfl
theorem tc_size (n d : Nat) : (tc n d).size = 462 := by simp [tc, tabL_len]
theorem tc_get (n d i j : Nat) (hi : i < 21) (hj : j < 22) : (tc n d)[i * 22 + j]? = some (.int .i64 (cell n d i j)) := by
  simp [tc, tabL_get n d i j hi hj]
theorem tc_set (n d : Nat) (h : n + d ≤ 20) (v : Int) : (tc n d).setIfInBounds (n * 22 + d) (.int .i64 v) = ((((tabL n d).set (n * 22 + d) v)).map (Value.int .i64)).toArray := by
  simp [tc, List.map_set]
def tcs (n d : Nat) (v : Int) : Array Value := (((tabL n d).set (n * 22 + d) v).map (Value.int .i64)).toArray
theorem tc_put (n d : Nat) (v : Int) : (tc n d).setIfInBounds (n * 22 + d) (.int .i64 v) = tcs n d v := by
  simp [tc, tcs, List.map_set]
theorem tcs_put (n d : Nat) (u v : Int) : (tcs n d u).setIfInBounds (n * 22 + d) (.int .i64 v) = tcs n d v := by
  simp [tcs, List.map_set]
theorem tcs_same (n d : Nat) (v : Int) (h : n + d ≤ 20) : (tcs n d v)[n * 22 + d]? = some (.int .i64 v) := by
  unfold tcs
  rw [List.getElem?_toArray, List.getElem?_map, List.getElem?_set_self (by rw [tabL_len]; omega)]
  rfl
theorem tcs_other (n d : Nat) (v : Int) (i j : Nat) (hi : i < n) (hn : n ≤ 20) (hj : j < 22) : (tcs n d v)[i * 22 + j]? = some (.int .i64 (cell n d i j)) := by
  unfold tcs
  rw [List.getElem?_toArray, List.getElem?_map, List.getElem?_set_ne (by omega), tabL_get n d i j (by omega) hj]
  rfl
theorem tcs_done (n d : Nat) (h : n + d ≤ 20) : tcs n d (tw n d) = tc n (d + 1) := by
  unfold tcs tc
  rw [tabL_set n d h]
theorem tw_step0 (N1 : Nat) (h : N1 ≤ 20) : wrap64 (wrap64 (2 * tw N1 1) + wrap64 (2 * tw N1 0)) = tw (N1 + 1) 0 := by
  have a := tw_small N1 1 h
  have b := tw_small N1 0 h
  rw [show tw (N1 + 1) 0 = 2 * tw N1 1 + 2 * tw N1 0 + 0 from rfl]
  generalize tw N1 1 = A at *
  generalize tw N1 0 = B at *
  rw [w64 (x := 2 * A) (by omega) (by omega), w64 (x := 2 * B) (by omega) (by omega), w64 (by omega) (by omega)]
  omega
theorem tw_step (N1 d : Nat) (h : N1 ≤ 20) (hd : d ≠ 0) : wrap64 (wrap64 (wrap64 (2 * tw N1 (d + 1)) + wrap64 (2 * tw N1 d)) + wrap64 (2 * tw N1 (d - 1))) = tw (N1 + 1) d := by
  have a := tw_small N1 (d + 1) h
  have b := tw_small N1 d h
  have c := tw_small N1 (d - 1) h
  have e : tw (N1 + 1) d = 2 * tw N1 (d + 1) + 2 * tw N1 d + 2 * tw N1 (d - 1) := by
    conv => lhs; unfold tw
    rw [if_neg hd]
  rw [e]
  generalize tw N1 (d + 1) = A at *
  generalize tw N1 d = B at *
  generalize tw N1 (d - 1) = C at *
  rw [w64 (x := 2 * A) (by omega) (by omega), w64 (x := 2 * B) (by omega) (by omega), w64 (x := 2 * C) (by omega) (by omega), w64 (x := 2 * A + 2 * B) (by omega) (by omega), w64 (by omega) (by omega)]
theorem zc_set : zc.setIfInBounds 0 (.int .i64 1) = tc 1 0 := by
  unfold tc zc
  rw [← tabL_first, List.map_set, List.map_replicate]
  apply Array.toList_inj.1
  rw [Array.toList_setIfInBounds, Array.toList_replicate]
theorem zc_size : zc.size = 462 := Array.size_replicate
theorem zc_get : zc[0]? = some (.int .i64 0) := by
  unfold zc
  rw [Array.getElem?_replicate]; rfl
theorem size93 : (Try.prog.info? 47).map (·.size) = some 462 := (zero_of_info tabInfo).2
theorem zc_one : zc.all (·.oneCell') = true := by
  unfold zc
  rw [Array.all_eq_true]
  intro i hi
  rw [Array.getElem_replicate]
  rfl
theorem tc_one (n d : Nat) : (tc n d).all (·.oneCell') = true := by
  rw [Array.all_eq_true_iff_forall_mem]
  intro x hx
  unfold tc at hx
  rw [List.mem_toArray, List.mem_map] at hx
  obtain ⟨y, _, rfl⟩ := hx
  rfl
section
variable {ops : Array Oper} {rest : List Oper} {o : Oper} {a : Act} {Q : Exit → Act → World → Prop} {W : World}
theorem load93 (hgd : o.guard = none) (p : Tmp) (ho : o.op = .load 47 (.tmp p)) {g : Nat} {cs : Array Value} (hx : a.eval (.tmp p) = .pointer (some ⟨g, 0, none⟩)) (hb : W.heap[g]? = some (.cells cs 47 (0, 0))) (hs : cs.size = 462)
    (h : wpList Try.prog ops Q rest (a.put o.dst (.agg cs)) W) : wpList Try.prog ops Q (o :: rest) a W := by
  refine wpList_plain hgd fun K hK => wp_load_row 47 _ ho g hx 47 cs (0, 0) _ hb und93 rfl (by rw [size93, hs]) ?_
  exact hK _ _ h
theorem store93 (hgd : o.guard = none) (p v : Tmp) (ho : o.op = .store 47 (.tmp p) (.tmp v)) {g : Nat} {old cs : Array Value} (hx : a.eval (.tmp p) = .pointer (some ⟨g, 0, none⟩)) (hy : a.eval (.tmp v) = .agg cs) (hb : W.heap[g]? = some (.cells old 47 (0, 0)))
    (hs : cs.size = 462) (hs0 : old.size = 462) (h1 : cs.all (·.oneCell') = true)
    (h : ∀ w', w'.heap[g]? = some (.cells cs 47 (0, 0)) → (∀ B w0, Below B w0 W → B ≤ g → Below B w0 w') → (∀ k, k ≠ g → w'.heap[k]? = W.heap[k]?) → wpList Try.prog ops Q rest (a.put o.dst undef) w') : wpList Try.prog ops Q (o :: rest) a W := by
  refine wpList_plain hgd fun K hK => wp_store_row 47 _ _ ho g cs hx hy 47 old hb (by rw [size93, hs]) (by omega) h1 ?_
  exact hK _ _ (h _ (setRow_heap _ _ _ _ _ _ hb) (fun B w0 hB hle => hB.trans ⟨rfl, rfl, rfl, by simp, fun k hk => setRow_other _ _ _ _ (by omega)⟩) (fun k hk => setRow_other _ _ _ _ hk))
end
def endings.T9 : Bool × List (List Nat × List Nat) := (true, [([], []), ([], []), ([], []), ([2], [2]), ([], []), ([4], [4]), ([3], [3]), ([6, 5], [5, 6]), ([7], [7]), ([8], [8]), ([], []), ([10], [10]), ([], []), ([11], [11]), ([13, 12], [12, 13]), ([14], [14]), ([15], [15]), ([9, 16], [9, 16]), ([0], [0]), ([18, 1, 0, 1, 2, 3, 4, 5, 6, 7, 8, 9, 10, 11, 12, 13, 14, 15, 16, 17], [1, 18]), ([19, 17, 0, 1, 2, 3, 4, 5, 6, 7, 8, 9, 10, 11, 12, 13, 14, 15, 16, 17], [17, 19])])
def endings.B9 : List Nat := [0, 0, 0, 4, 0, 16, 12, 124, 252, 508, 0, 1024, 0, 3072, 15360, 31744, 64512, 131068, 1, 524287, 1048575]
theorem endings.tab9 : rtab .any (opsOf Try.f28 9) = endings.T9 := by kernel_rfl
theorem endings.bits9 : waitsOk endings.T9.2 endings.B9 = true := by kernel_rfl
def endings.T11 : Bool × List (List Nat × List Nat) := (true, [([], []), ([], []), ([0], [0]), ([2, 1], [1, 2]), ([3], [3]), ([], []), ([5], [5]), ([], []), ([7], [7]), ([6], [6]), ([9, 8], [8, 9]), ([10], [10]), ([11], [11]), ([4, 12], [4, 12]), ([0], [0]), ([14, 1, 0, 1, 2, 3, 4, 5, 6, 7, 8, 9, 10, 11, 12, 13], [1, 14]), ([15, 13, 0, 1, 2, 3, 4, 5, 6, 7, 8, 9, 10, 11, 12, 13], [13, 15])])
def endings.B11 : List Nat := [0, 0, 1, 7, 15, 0, 32, 0, 128, 96, 992, 2016, 4064, 8191, 1, 32767, 65535]
theorem endings.tab11 : rtab .any (opsOf Try.f28 11) = endings.T11 := by kernel_rfl
theorem endings.bits11 : waitsOk endings.T11.2 endings.B11 = true := by kernel_rfl
set_option maxHeartbeats 4000000 in
set_option maxRecDepth 100000 in
theorem endings_calls (w : World) : Calls Try.prog 28 #[] w fun e w' => e = .returned (.agg (tc 21 0)) ∧ Below w.heap.size w w' := by
  have hz := (zero_of_info tabInfo).1
  have hu93 := und93
  have hu92 := und92
  have HB := Aside0.mk (Below.refl w.heap.size w)
  go_enter Try.func28, Try.ntmps28
  go_wp2_with (first | ((with_reducible refine gate_dst (N := 0) rfl ?_); refine box_event ?hg (N := 0) ?hd (cs := zc) (t := 47) ?hr ?_; (case hd => rfl); (case hg => rfl); (case hr => first | (go_simp; done) | (go_simp; rfl)); intro g0 hg w1 hbx hB; have BK0 := Aside0.mk hbx; have HB1 := Aside0.mk (below_step HB.out hB); have GE0 := Aside0.mk (show w.heap.size ≤ g0 by rw [hg]; exact Nat.le_refl _); clear HB hbx hB hg; have HB := HB1; clear HB1) | ((with_reducible refine gate_dst (N := 1) rfl ?_); refine box_event ?hg (N := 1) ?hd (cs := zc) (t := 47) ?hr ?_; (case hd => rfl); (case hg => rfl); (case hr => first | (go_simp; done) | (go_simp; rfl)); intro g1 hg w2 hbx hB; have BK1 := Aside0.mk hbx; have BK2 := Aside0.mk (blk_below BK0.out hB); have NE := Aside0.mk (show g0 ≠ g1 by rw [hg]; exact Nat.ne_of_lt (blk_lt BK0.out)); have GE1 := Aside0.mk (show w.heap.size ≤ g1 by rw [hg]; exact below_size HB.out); have HB1 := Aside0.mk (below_step HB.out hB); clear HB hbx hB hg BK0; have HB := HB1; have BK0 := BK2; clear HB1 BK2) | ((with_reducible refine gate_ (.store 47 (.tmp 1) (.tmp 4)) rfl ?_); refine store93 rfl 1 4 rfl (g := g1) (old := zc) (cs := zc) rfl rfl BK1.out zc_size zc_size zc_one ?_; intro w3 hbx hB hfar; have HB1 := Aside0.mk (hB _ _ HB.out GE1.out); have BK2 := Aside0.mk ((hfar _ NE.out).trans BK0.out); clear BK1 HB BK0; have BK1 := Aside0.mk hbx; have HB := HB1; have BK0 := BK2; clear HB1 BK2 hbx hB hfar; have hc1 : w3.cell? ⟨g1, 0, none⟩ = some (.int .i64 0) := (blk_cell BK1.out 0).trans zc_get; have hf1 : w3.frozen? ⟨g1, 0, none⟩ = false := blk_frozen BK1.out 0) | ((with_reducible refine gate_store (t := 2) (p := 6) rfl ?_); refine store_event (t := 2) (p := 6) (v := ?vo) (w1 := (w3.setCell ⟨g1, 0, none⟩ (.int .i64 1))) ?hg ?ho ?hn ?hr ?_; (case ho => rfl); (case hg => rfl); (case hn => rfl); (case hr => first | (go_simp; done) | (go_simp; rfl)); intro w4 hw; have BKa := Aside0.mk (show w4.heap[g1]? = some (.cells (tc 1 0) 47 (0, 0)) by rw [hw]; exact blk_put BK1.out 0 _ zc_set); have BKb := Aside0.mk (show w4.heap[g0]? = some (.cells zc 47 (0, 0)) by rw [hw]; exact (Below.heap_setCell _ _ _ _ NE.out).trans BK0.out); have HB1 := Aside0.mk (show Below w.heap.size w w4 by rw [hw]; exact below_set HB.out GE1.out); clear hw hc1 hf1 BK1 BK0 HB; have BK1 := BKa; have BK0 := BKb; have HB := HB1; clear BKa BKb HB1))
  go_loopg [2] 21 (fun kq v2 w' => ∃ n : Nat, v2 = .int .i64 (n : Int) ∧ Aside0 (kq + n = 22) ∧ Aside0 (1 ≤ kq) ∧ Aside0 (1 ≤ n) ∧ Aside0 (w'.heap[g0]? = some (.cells zc 47 (0, 0))) ∧ Aside0 (w'.heap[g1]? = some (.cells (tc n 0) 47 (0, 0))) ∧ Aside0 (Below w.heap.size w w'))
  case atStart => exact ⟨1, rfl, ⟨rfl⟩, ⟨by omega⟩, ⟨Nat.le_refl _⟩, ⟨BK0.out⟩, ⟨BK1.out⟩, ⟨HB.out⟩⟩
  case round =>
    obtain ⟨n, rfl, HN, HNk, HN1, BK0, BK1, HB⟩ := hrel
    by_cases c1 : n ≤ 20
    · have c1b : decide ((n : Int) ≤ 20) = true := decide_eq_true (by omega)
      have C1 := Aside0.mk c1
      clear c1
      obtain ⟨ko, rfl⟩ : ∃ ko, gk = ko + 1 := ⟨gk - 1, by have := HNk.out; omega⟩
      go_wp2
      obtain ⟨N1, hN1⟩ : ∃ N1 : Nat, N1 = n - 1 := ⟨_, rfl⟩
      have hN1' := Aside0.mk hN1
      clear hN1
      go_loopg [3] (22 - n) (fun kq v3 w' => ∃ d : Nat, v3 = .int .i64 (d : Int) ∧ Aside0 (kq + n + d = 22) ∧ Aside0 (1 ≤ kq) ∧ Aside0 (w'.heap[g0]? = some (.cells zc 47 (0, 0))) ∧ Aside0 (w'.heap[g1]? = some (.cells (tc n d) 47 (0, 0))) ∧ Aside0 (Below w.heap.size w w'))
      case atStart => exact ⟨0, rfl, ⟨by have := HN.out; have := C1.out; omega⟩, ⟨by have := HN.out; have := C1.out; omega⟩, ⟨BK0.out⟩, ⟨BK1.out⟩, ⟨HB.out⟩⟩
      case round =>
        obtain ⟨d, rfl, HD, HD1, BK0, BK1, HB⟩ := hrel
        have hw20 : wrap64 (20 - (n : Int)) = 20 - (n : Int) := by have := HN.out; have := HN1.out; rw [w64 (by omega) (by omega)]
        by_cases c2 : n + d ≤ 20
        · have c2b : decide ((d : Int) ≤ wrap64 (20 - (n : Int))) = true := by rw [hw20]; exact decide_eq_true (by omega)
          have C2 := Aside0.mk c2
          clear c2 hw20
          go_wp2
          obtain ⟨D1, hD1⟩ : ∃ D1 : Nat, D1 = d + 1 := ⟨_, rfl⟩
          have bn := C2.out
          have bn1 := HN1.out
          have bN := hN1'.out
          have e1 : wrap64 ((n : Int) - 1) = (N1 : Int) := by rw [w64 (by omega) (by omega)]; omega
          have e2 : wrap64 ((d : Int) + 1) = (D1 : Int) := by clear e1; rw [w64 (by omega) (by omega)]; omega
          have q1 : ((N1 : Int) < 21) = True := eq_true (by clear e1 e2; omega)
          have q1' : (N1 < 21) = True := eq_true (by clear e1 e2; omega)
          have q2 : ((D1 : Int) < 22) = True := eq_true (by clear e1 e2; omega)
          have q2' : (D1 < 22) = True := eq_true (by clear e1 e2; omega)
          have q3 : ((n : Int) < 21) = True := eq_true (by clear e1 e2; omega)
          have q3' : (n < 21) = True := eq_true (by clear e1 e2; omega)
          have q4 : ((d : Int) < 22) = True := eq_true (by clear e1 e2; omega)
          have q4' : (d < 22) = True := eq_true (by clear e1 e2; omega)
          obtain ⟨A, hA⟩ : ∃ A, A = tw N1 D1 := ⟨_, rfl⟩
          obtain ⟨B, hB_⟩ : ∃ B, B = tw N1 d := ⟨_, rfl⟩
          have hA' := Aside0.mk hA
          have hB' := Aside0.mk hB_
          have hD1' := Aside0.mk hD1
          have hxA : wr.drew.cell? ⟨g1, N1 * 22 + D1, none⟩ = some (.int .i64 A) := by
            rw [hA]; exact (blk_cell (blk_drew BK1.out) _).trans ((tc_get n d N1 D1 (by omega) (by omega)).trans (by rw [cell_old n d N1 D1 (by omega) (by omega)]))
          have hxB : wr.drew.cell? ⟨g1, N1 * 22 + d, none⟩ = some (.int .i64 B) := by
            rw [hB_]; exact (blk_cell (blk_drew BK1.out) _).trans ((tc_get n d N1 d (by omega) (by omega)).trans (by rw [cell_old n d N1 d (by omega) (by omega)]))
          have hxS : wr.drew.cell? ⟨g1, n * 22 + d, none⟩ = some (.int .i64 (cell n d n d)) := (blk_cell (blk_drew BK1.out) _).trans (tc_get n d n d (by omega) (by omega))
          have hfS : wr.drew.frozen? ⟨g1, n * 22 + d, none⟩ = false := blk_frozen (blk_drew BK1.out) _
          have BKa := Aside0.mk (blk_drew BK1.out)
          have BKb := Aside0.mk (blk_drew BK0.out)
          have HBa := Aside0.mk (below_drew1 HB.out)
          clear hA hB_ hD1 bn bn1 bN BKa BKb HBa
          refine start_ (n := 21) (S := fun w' => w'.cell? ⟨g1, N1 * 22 + D1, none⟩ = some (.int .i64 A) ∧ w'.cell? ⟨g1, N1 * 22 + d, none⟩ = some (.int .i64 B)) (ds := [20]) #[false, false, false, false, false, false, false, false, false, false, false, false, false, false, false, false, false, false, false, false, false] (by kernel_rfl) rfl rfl ⟨hxA, hxB⟩ (fun hHeld => ?_)
          refine with_tabW endings.tab9 endings.bits9 (fun HT_ HW_ => ?_)
          refine pure_ (i := 0) (N := some 17) (v := ?_) (a' := ?_) #[true, false, false, false, false, false, false, false, false, false, false, false, false, false, false, false, false, false, false, false, false] rfl rfl (any_of HT_.out (by kernel_rfl)) (fun _ _ _ h => h) (Or.inl ⟨by rfl, ?_⟩) ?_ ?_
          rotate_left
          · intro w'
            go_simp
            with_reducible rfl
          rotate_left
          · simp only [Act.put, List.setIfInBounds_toArray, List.set_cons_zero, List.set_cons_succ, i64_w, i32_w]
            rfl
          refine pure_ (i := 1) (N := some 18) (v := ?_) (a' := ?_) #[true, true, false, false, false, false, false, false, false, false, false, false, false, false, false, false, false, false, false, false, false] rfl rfl (any_of HT_.out (by kernel_rfl)) (fun _ _ _ h => h) (Or.inl ⟨by rfl, ?_⟩) ?_ ?_
          rotate_left
          · intro w'
            go_simp
            with_reducible rfl
          rotate_left
          · simp only [Act.put, List.setIfInBounds_toArray, List.set_cons_zero, List.set_cons_succ, i64_w, i32_w]
            rfl
          refine pure_ (i := 2) (N := some 19) (v := ?_) (a' := ?_) #[true, true, true, false, false, false, false, false, false, false, false, false, false, false, false, false, false, false, false, false, false] rfl rfl (any_of HT_.out (by kernel_rfl)) (fun _ _ _ h => h) (Or.inl ⟨by rfl, ?_⟩) ?_ ?_
          rotate_left
          · intro w'
            go_simp
            with_reducible rfl
          rotate_left
          · simp only [Act.put, List.setIfInBounds_toArray, List.set_cons_zero, List.set_cons_succ, i64_w, i32_w]
            rfl
          refine pure_ (i := 3) (N := some 20) (v := ?_) (a' := ?_) #[true, true, true, true, false, false, false, false, false, false, false, false, false, false, false, false, false, false, false, false, false] rfl rfl (any_of HT_.out (by kernel_rfl)) (fun _ _ _ h => h) (Or.inl ⟨by rfl, ?_⟩) ?_ ?_
          rotate_left
          · intro w'
            go_simp
            with_reducible rfl
          rotate_left
          · simp only [Act.put, List.setIfInBounds_toArray, List.set_cons_zero, List.set_cons_succ, i64_w, i32_w]
            rfl
          refine pure_ (i := 4) (N := some 21) (v := ?_) (a' := ?_) #[true, true, true, true, true, false, false, false, false, false, false, false, false, false, false, false, false, false, false, false, false] rfl rfl (any_of HT_.out (by kernel_rfl)) (fun _ _ _ h => h) (Or.inl ⟨by rfl, ?_⟩) ?_ ?_
          rotate_left
          · intro w'
            go_simp
            with_reducible rfl
          rotate_left
          · simp only [Act.put, List.setIfInBounds_toArray, List.set_cons_zero, List.set_cons_succ, i64_w, i32_w]
            rfl
          refine pure_ (i := 5) (N := some 22) (v := ?_) (a' := ?_) #[true, true, true, true, true, true, false, false, false, false, false, false, false, false, false, false, false, false, false, false, false] rfl rfl (any_of HT_.out (by kernel_rfl)) (fun _ _ _ h => h) (Or.inl ⟨by rfl, ?_⟩) ?_ ?_
          rotate_left
          · intro w'
            go_simp
            with_reducible rfl
          rotate_left
          · simp only [Act.put, List.setIfInBounds_toArray, List.set_cons_zero, List.set_cons_succ, i64_w, i32_w]
            rfl
          refine pure_ (i := 6) (N := some 23) (v := ?_) (a' := ?_) #[true, true, true, true, true, true, true, false, false, false, false, false, false, false, false, false, false, false, false, false, false] rfl rfl (any_of HT_.out (by kernel_rfl)) (fun _ _ _ h => h) (Or.inl ⟨by rfl, ?_⟩) ?_ ?_
          rotate_left
          · intro w'
            go_simp
            with_reducible rfl
          rotate_left
          · simp only [Act.put, List.setIfInBounds_toArray, List.set_cons_zero, List.set_cons_succ, i64_w, i32_w]
            rfl
          refine pure_ (i := 7) (N := some 24) (v := ?_) (a' := ?_) #[true, true, true, true, true, true, true, true, false, false, false, false, false, false, false, false, false, false, false, false, false] rfl rfl (any_of HT_.out (by kernel_rfl)) (fun _ _ _ h => h) (Or.inl ⟨by rfl, ?_⟩) ?_ ?_
          rotate_left
          · intro w'
            go_simp
            with_reducible rfl
          rotate_left
          · simp only [Act.put, List.setIfInBounds_toArray, List.set_cons_zero, List.set_cons_succ, i64_w, i32_w]
            rfl
          refine take_ (i := 8) (N := some 25) (v := ?_) (a' := ?_) #[true, true, true, true, true, true, true, true, true, false, false, false, false, false, false, false, false, false, false, false, false] rfl rfl (take_ofW HT_.out HW_.out (by kernel_rfl)) (fun _ _ _ h => h) (Or.inl ⟨by rfl, ?_⟩) hHeld ?_ ?_
          rotate_left
          · rintro w' ⟨s0, s1⟩
            go_simp
            with_reducible rfl
          rotate_left
          · simp only [Act.put, List.setIfInBounds_toArray, List.set_cons_zero, List.set_cons_succ, i64_w, i32_w]
            rfl
          refine pure_ (i := 9) (N := some 26) (v := ?_) (a' := ?_) #[true, true, true, true, true, true, true, true, true, true, false, false, false, false, false, false, false, false, false, false, false] rfl rfl (any_of HT_.out (by kernel_rfl)) (fun _ _ _ h => h) (Or.inl ⟨by rfl, ?_⟩) ?_ ?_
          rotate_left
          · intro w'
            go_simp
            with_reducible rfl
          rotate_left
          · simp only [Act.put, List.setIfInBounds_toArray, List.set_cons_zero, List.set_cons_succ, i64_w, i32_w]
            rfl
          refine pure_ (i := 10) (N := some 27) (v := ?_) (a' := ?_) #[true, true, true, true, true, true, true, true, true, true, true, false, false, false, false, false, false, false, false, false, false] rfl rfl (any_of HT_.out (by kernel_rfl)) (fun _ _ _ h => h) (Or.inl ⟨by rfl, ?_⟩) ?_ ?_
          rotate_left
          · intro w'
            go_simp
            with_reducible rfl
          rotate_left
          · simp only [Act.put, List.setIfInBounds_toArray, List.set_cons_zero, List.set_cons_succ, i64_w, i32_w]
            rfl
          refine pure_ (i := 11) (N := some 28) (v := ?_) (a' := ?_) #[true, true, true, true, true, true, true, true, true, true, true, true, false, false, false, false, false, false, false, false, false] rfl rfl (any_of HT_.out (by kernel_rfl)) (fun _ _ _ h => h) (Or.inl ⟨by rfl, ?_⟩) ?_ ?_
          rotate_left
          · intro w'
            go_simp
            with_reducible rfl
          rotate_left
          · simp only [Act.put, List.setIfInBounds_toArray, List.set_cons_zero, List.set_cons_succ, i64_w, i32_w]
            rfl
          refine pure_ (i := 12) (N := some 29) (v := ?_) (a' := ?_) #[true, true, true, true, true, true, true, true, true, true, true, true, true, false, false, false, false, false, false, false, false] rfl rfl (any_of HT_.out (by kernel_rfl)) (fun _ _ _ h => h) (Or.inl ⟨by rfl, ?_⟩) ?_ ?_
          rotate_left
          · intro w'
            go_simp
            with_reducible rfl
          rotate_left
          · simp only [Act.put, List.setIfInBounds_toArray, List.set_cons_zero, List.set_cons_succ, i64_w, i32_w]
            rfl
          refine pure_ (i := 13) (N := some 30) (v := ?_) (a' := ?_) #[true, true, true, true, true, true, true, true, true, true, true, true, true, true, false, false, false, false, false, false, false] rfl rfl (any_of HT_.out (by kernel_rfl)) (fun _ _ _ h => h) (Or.inl ⟨by rfl, ?_⟩) ?_ ?_
          rotate_left
          · intro w'
            go_simp
            with_reducible rfl
          rotate_left
          · simp only [Act.put, List.setIfInBounds_toArray, List.set_cons_zero, List.set_cons_succ, i64_w, i32_w]
            rfl
          refine pure_ (i := 14) (N := some 31) (v := ?_) (a' := ?_) #[true, true, true, true, true, true, true, true, true, true, true, true, true, true, true, false, false, false, false, false, false] rfl rfl (any_of HT_.out (by kernel_rfl)) (fun _ _ _ h => h) (Or.inl ⟨by rfl, ?_⟩) ?_ ?_
          rotate_left
          · intro w'
            go_simp
            with_reducible rfl
          rotate_left
          · simp only [Act.put, List.setIfInBounds_toArray, List.set_cons_zero, List.set_cons_succ, i64_w, i32_w]
            rfl
          refine take_ (i := 15) (N := some 32) (v := ?_) (a' := ?_) #[true, true, true, true, true, true, true, true, true, true, true, true, true, true, true, true, false, false, false, false, false] rfl rfl (take_ofW HT_.out HW_.out (by kernel_rfl)) (fun _ _ _ h => h) (Or.inl ⟨by rfl, ?_⟩) hHeld ?_ ?_
          rotate_left
          · rintro w' ⟨s0, s1⟩
            go_simp
            with_reducible rfl
          rotate_left
          · simp only [Act.put, List.setIfInBounds_toArray, List.set_cons_zero, List.set_cons_succ, i64_w, i32_w]
            rfl
          refine pure_ (i := 16) (N := some 33) (v := ?_) (a' := ?_) #[true, true, true, true, true, true, true, true, true, true, true, true, true, true, true, true, true, false, false, false, false] rfl rfl (any_of HT_.out (by kernel_rfl)) (fun _ _ _ h => h) (Or.inl ⟨by rfl, ?_⟩) ?_ ?_
          rotate_left
          · intro w'
            go_simp
            with_reducible rfl
          rotate_left
          · simp only [Act.put, List.setIfInBounds_toArray, List.set_cons_zero, List.set_cons_succ, i64_w, i32_w]
            rfl
          refine pure_ (i := 17) (N := some 34) (v := ?_) (a' := ?_) #[true, true, true, true, true, true, true, true, true, true, true, true, true, true, true, true, true, true, false, false, false] rfl rfl (any_of HT_.out (by kernel_rfl)) (fun _ _ _ h => h) (Or.inl ⟨by rfl, ?_⟩) ?_ ?_
          rotate_left
          · intro w'
            go_simp
            with_reducible rfl
          rotate_left
          · simp only [Act.put, List.setIfInBounds_toArray, List.set_cons_zero, List.set_cons_succ, i64_w, i32_w]
            rfl
          refine pure_ (i := 18) (N := some 35) (v := ?_) (a' := ?_) #[true, true, true, true, true, true, true, true, true, true, true, true, true, true, true, true, true, true, true, false, false] rfl rfl (any_of HT_.out (by kernel_rfl)) (fun _ _ _ h => h) (Or.inl ⟨by rfl, ?_⟩) ?_ ?_
          rotate_left
          · intro w'
            go_simp
            with_reducible rfl
          rotate_left
          · simp only [Act.put, List.setIfInBounds_toArray, List.set_cons_zero, List.set_cons_succ, i64_w, i32_w]
            rfl
          refine pure_ (i := 19) (N := some 36) (v := ?_) (a' := ?_) #[true, true, true, true, true, true, true, true, true, true, true, true, true, true, true, true, true, true, true, true, false] rfl rfl (any_of HT_.out (by kernel_rfl)) (fun _ _ _ h => h) (Or.inl ⟨by rfl, ?_⟩) ?_ ?_
          rotate_left
          · intro w'
            go_simp
            with_reducible rfl
          rotate_left
          · simp only [Act.put, List.setIfInBounds_toArray, List.set_cons_zero, List.set_cons_succ, i64_w, i32_w]
            rfl
          refine last_ (i := 20) (N := none) #[true, true, true, true, true, true, true, true, true, true, true, true, true, true, true, true, true, true, true, true, true] rfl rfl (one_of HT_.out (by kernel_rfl)) (by decide) (fun K hK => ?_)
          refine skip_ (w1 := ?_) (by rfl) rfl ?_ ?_
          rotate_left
          · go_simp
            rfl
          refine hK.out _ _ ?_
          clear hK K
          refine done_ (done_of HT_.out (by kernel_rfl)) ?_
          obtain ⟨V, hV⟩ : ∃ V, V = wrap64 (wrap64 (2 * A) + wrap64 (2 * B)) := ⟨_, rfl⟩
          obtain ⟨W1, hW1⟩ : ∃ W1, W1 = (wr.setCell ⟨g1, n * 22 + d, none⟩ (.int .i64 V)).drew := ⟨_, rfl⟩
          have hV' := Aside0.mk hV
          rw [← hV, ← hW1]
          have BKn := Aside0.mk (show W1.heap[g1]? = some (.cells (tcs n d V) 47 (0, 0)) by rw [hW1]; exact blk_drew (blk_put BK1.out _ _ (tc_put n d V)))
          have BKm := Aside0.mk (show W1.heap[g0]? = some (.cells zc 47 (0, 0)) by rw [hW1]; exact blk_drew ((Below.heap_setCell _ _ _ _ NE.out).trans BK0.out))
          have HBn := Aside0.mk (show Below w.heap.size w W1 by rw [hW1]; exact below_drew1 (below_set HB.out GE1.out))
          clear hW1 hV BK1 BK0 HB hxA hxB hxS hfS hHeld HT_ HW_
          cases gk with
          | zero => exact absurd HD.out (by have := C2.out; omega)
          | succ k1 =>
          by_cases c3 : d = 0
          · subst c3
            have c3b : decide ((0 : Int) < ((0 : Nat) : Int)) = false := by decide
            go_wp2
            go_roundg k1
            case measure => omega
            case rel => exact ⟨D1, by rw [hD1'.out]; rfl, ⟨by have := HD.out; have := hD1'.out; omega⟩, ⟨by have := HD.out; have := C2.out; omega⟩, ⟨BKm.out⟩, ⟨by
              have h := BKn.out
              have hn := hN1'.out
              have h1 := HN1.out
              have h2 := C2.out
              rw [hV'.out, hA'.out, hB'.out, hD1'.out, show 0 + 1 = 1 from rfl, tw_step0 N1 (by omega), show N1 + 1 = n by omega, tcs_done n 0 h2] at h
              rw [hD1'.out]; exact h⟩, ⟨HBn.out⟩⟩
          · have c3b : decide ((0 : Int) < (d : Int)) = true := decide_eq_true (by omega)
            have c3c : decide (0 < d) = true := decide_eq_true (by omega)
            obtain ⟨D0, hD0⟩ : ∃ D0 : Nat, D0 = d - 1 := ⟨_, rfl⟩
            have hD0' := Aside0.mk hD0
            have e3 : wrap64 ((d : Int) - 1) = (D0 : Int) := by have := C2.out; clear e1 e2 q1 q1' q2 q2' q3 q3' q4 q4' c2b c1b; rw [w64 (by omega) (by omega)]; omega
            have C3 := Aside0.mk c3
            clear c3 hD0
            have q5 : ((D0 : Int) < 22) = True := eq_true (by have := C2.out; have := hD0'.out; clear e1 e2 e3 q1 q1' q2 q2' q3 q3' q4 q4' c2b c1b; omega)
            have q5' : (D0 < 22) = True := eq_true (by have := C2.out; have := hD0'.out; clear e1 e2 e3 q1 q1' q2 q2' q3 q3' q4 q4' q5 c2b c1b; omega)
            go_wp2
            obtain ⟨C, hC⟩ : ∃ C, C = tw N1 D0 := ⟨_, rfl⟩
            have hC' := Aside0.mk hC
            have hyA : W1.drew.cell? ⟨g1, n * 22 + d, none⟩ = some (.int .i64 V) := (blk_cell (blk_drew BKn.out) _).trans (tcs_same n d V C2.out)
            have hyB : W1.drew.cell? ⟨g1, N1 * 22 + D0, none⟩ = some (.int .i64 C) := by
              have := C2.out
              have := hD0'.out
              have := hN1'.out
              have := HN1.out
              clear e1 e2 e3 q1 q1' q2 q2' q3 q3' q4 q4' q5 q5' c2b c1b
              rw [hC]; exact (blk_cell (blk_drew BKn.out) _).trans ((tcs_other n d V N1 D0 (by omega) (by omega) (by omega)).trans (by rw [cell_old n d N1 D0 (by omega) (by omega)]))
            have hfS : W1.drew.frozen? ⟨g1, n * 22 + d, none⟩ = false := blk_frozen (blk_drew BKn.out) _
            clear hC
            refine start_ (n := 17) (S := fun w' => w'.cell? ⟨g1, n * 22 + d, none⟩ = some (.int .i64 V) ∧ w'.cell? ⟨g1, N1 * 22 + D0, none⟩ = some (.int .i64 C)) (ds := [16]) #[false, false, false, false, false, false, false, false, false, false, false, false, false, false, false, false, false] (by kernel_rfl) rfl rfl ⟨hyA, hyB⟩ (fun hHeld => ?_)
            refine with_tabW endings.tab11 endings.bits11 (fun HT_ HW_ => ?_)
            refine pure_ (i := 0) (N := some 39) (v := ?_) (a' := ?_) #[true, false, false, false, false, false, false, false, false, false, false, false, false, false, false, false, false] rfl rfl (any_of HT_.out (by kernel_rfl)) (fun _ _ _ h => h) (Or.inl ⟨by rfl, ?_⟩) ?_ ?_
            rotate_left
            · intro w'
              go_simp
              with_reducible rfl
            rotate_left
            · simp only [Act.put, List.setIfInBounds_toArray, List.set_cons_zero, List.set_cons_succ, i64_w, i32_w]
              rfl
            refine pure_ (i := 1) (N := some 40) (v := ?_) (a' := ?_) #[true, true, false, false, false, false, false, false, false, false, false, false, false, false, false, false, false] rfl rfl (any_of HT_.out (by kernel_rfl)) (fun _ _ _ h => h) (Or.inl ⟨by rfl, ?_⟩) ?_ ?_
            rotate_left
            · intro w'
              go_simp
              with_reducible rfl
            rotate_left
            · simp only [Act.put, List.setIfInBounds_toArray, List.set_cons_zero, List.set_cons_succ, i64_w, i32_w]
              rfl
            refine pure_ (i := 2) (N := some 41) (v := ?_) (a' := ?_) #[true, true, true, false, false, false, false, false, false, false, false, false, false, false, false, false, false] rfl rfl (any_of HT_.out (by kernel_rfl)) (fun _ _ _ h => h) (Or.inl ⟨by rfl, ?_⟩) ?_ ?_
            rotate_left
            · intro w'
              go_simp
              with_reducible rfl
            rotate_left
            · simp only [Act.put, List.setIfInBounds_toArray, List.set_cons_zero, List.set_cons_succ, i64_w, i32_w]
              rfl
            refine pure_ (i := 3) (N := some 42) (v := ?_) (a' := ?_) #[true, true, true, true, false, false, false, false, false, false, false, false, false, false, false, false, false] rfl rfl (any_of HT_.out (by kernel_rfl)) (fun _ _ _ h => h) (Or.inl ⟨by rfl, ?_⟩) ?_ ?_
            rotate_left
            · intro w'
              go_simp
              with_reducible rfl
            rotate_left
            · simp only [Act.put, List.setIfInBounds_toArray, List.set_cons_zero, List.set_cons_succ, i64_w, i32_w]
              rfl
            refine take_ (i := 4) (N := some 43) (v := ?_) (a' := ?_) #[true, true, true, true, true, false, false, false, false, false, false, false, false, false, false, false, false] rfl rfl (take_ofW HT_.out HW_.out (by kernel_rfl)) (fun _ _ _ h => h) (Or.inl ⟨by rfl, ?_⟩) hHeld ?_ ?_
            rotate_left
            · rintro w' ⟨s0, s1⟩
              go_simp
              with_reducible rfl
            rotate_left
            · simp only [Act.put, List.setIfInBounds_toArray, List.set_cons_zero, List.set_cons_succ, i64_w, i32_w]
              rfl
            refine pure_ (i := 5) (N := some 44) (v := ?_) (a' := ?_) #[true, true, true, true, true, true, false, false, false, false, false, false, false, false, false, false, false] rfl rfl (any_of HT_.out (by kernel_rfl)) (fun _ _ _ h => h) (Or.inl ⟨by rfl, ?_⟩) ?_ ?_
            rotate_left
            · intro w'
              go_simp
              with_reducible rfl
            rotate_left
            · simp only [Act.put, List.setIfInBounds_toArray, List.set_cons_zero, List.set_cons_succ, i64_w, i32_w]
              rfl
            refine pure_ (i := 6) (N := some 45) (v := ?_) (a' := ?_) #[true, true, true, true, true, true, true, false, false, false, false, false, false, false, false, false, false] rfl rfl (any_of HT_.out (by kernel_rfl)) (fun _ _ _ h => h) (Or.inl ⟨by rfl, ?_⟩) ?_ ?_
            rotate_left
            · intro w'
              go_simp
              with_reducible rfl
            rotate_left
            · simp only [Act.put, List.setIfInBounds_toArray, List.set_cons_zero, List.set_cons_succ, i64_w, i32_w]
              rfl
            refine pure_ (i := 7) (N := some 46) (v := ?_) (a' := ?_) #[true, true, true, true, true, true, true, true, false, false, false, false, false, false, false, false, false] rfl rfl (any_of HT_.out (by kernel_rfl)) (fun _ _ _ h => h) (Or.inl ⟨by rfl, ?_⟩) ?_ ?_
            rotate_left
            · intro w'
              go_simp
              with_reducible rfl
            rotate_left
            · simp only [Act.put, List.setIfInBounds_toArray, List.set_cons_zero, List.set_cons_succ, i64_w, i32_w]
              rfl
            refine pure_ (i := 8) (N := some 47) (v := ?_) (a' := ?_) #[true, true, true, true, true, true, true, true, true, false, false, false, false, false, false, false, false] rfl rfl (any_of HT_.out (by kernel_rfl)) (fun _ _ _ h => h) (Or.inl ⟨by rfl, ?_⟩) ?_ ?_
            rotate_left
            · intro w'
              go_simp
              with_reducible rfl
            rotate_left
            · simp only [Act.put, List.setIfInBounds_toArray, List.set_cons_zero, List.set_cons_succ, i64_w, i32_w]
              rfl
            refine pure_ (i := 9) (N := some 48) (v := ?_) (a' := ?_) #[true, true, true, true, true, true, true, true, true, true, false, false, false, false, false, false, false] rfl rfl (any_of HT_.out (by kernel_rfl)) (fun _ _ _ h => h) (Or.inl ⟨by rfl, ?_⟩) ?_ ?_
            rotate_left
            · intro w'
              go_simp
              with_reducible rfl
            rotate_left
            · simp only [Act.put, List.setIfInBounds_toArray, List.set_cons_zero, List.set_cons_succ, i64_w, i32_w]
              rfl
            refine pure_ (i := 10) (N := some 49) (v := ?_) (a' := ?_) #[true, true, true, true, true, true, true, true, true, true, true, false, false, false, false, false, false] rfl rfl (any_of HT_.out (by kernel_rfl)) (fun _ _ _ h => h) (Or.inl ⟨by rfl, ?_⟩) ?_ ?_
            rotate_left
            · intro w'
              go_simp
              with_reducible rfl
            rotate_left
            · simp only [Act.put, List.setIfInBounds_toArray, List.set_cons_zero, List.set_cons_succ, i64_w, i32_w]
              rfl
            refine take_ (i := 11) (N := some 50) (v := ?_) (a' := ?_) #[true, true, true, true, true, true, true, true, true, true, true, true, false, false, false, false, false] rfl rfl (take_ofW HT_.out HW_.out (by kernel_rfl)) (fun _ _ _ h => h) (Or.inl ⟨by rfl, ?_⟩) hHeld ?_ ?_
            rotate_left
            · rintro w' ⟨s0, s1⟩
              go_simp
              with_reducible rfl
            rotate_left
            · simp only [Act.put, List.setIfInBounds_toArray, List.set_cons_zero, List.set_cons_succ, i64_w, i32_w]
              rfl
            refine pure_ (i := 12) (N := some 51) (v := ?_) (a' := ?_) #[true, true, true, true, true, true, true, true, true, true, true, true, true, false, false, false, false] rfl rfl (any_of HT_.out (by kernel_rfl)) (fun _ _ _ h => h) (Or.inl ⟨by rfl, ?_⟩) ?_ ?_
            rotate_left
            · intro w'
              go_simp
              with_reducible rfl
            rotate_left
            · simp only [Act.put, List.setIfInBounds_toArray, List.set_cons_zero, List.set_cons_succ, i64_w, i32_w]
              rfl
            refine pure_ (i := 13) (N := some 52) (v := ?_) (a' := ?_) #[true, true, true, true, true, true, true, true, true, true, true, true, true, true, false, false, false] rfl rfl (any_of HT_.out (by kernel_rfl)) (fun _ _ _ h => h) (Or.inl ⟨by rfl, ?_⟩) ?_ ?_
            rotate_left
            · intro w'
              go_simp
              with_reducible rfl
            rotate_left
            · simp only [Act.put, List.setIfInBounds_toArray, List.set_cons_zero, List.set_cons_succ, i64_w, i32_w]
              rfl
            refine pure_ (i := 14) (N := some 53) (v := ?_) (a' := ?_) #[true, true, true, true, true, true, true, true, true, true, true, true, true, true, true, false, false] rfl rfl (any_of HT_.out (by kernel_rfl)) (fun _ _ _ h => h) (Or.inl ⟨by rfl, ?_⟩) ?_ ?_
            rotate_left
            · intro w'
              go_simp
              with_reducible rfl
            rotate_left
            · simp only [Act.put, List.setIfInBounds_toArray, List.set_cons_zero, List.set_cons_succ, i64_w, i32_w]
              rfl
            refine pure_ (i := 15) (N := some 54) (v := ?_) (a' := ?_) #[true, true, true, true, true, true, true, true, true, true, true, true, true, true, true, true, false] rfl rfl (any_of HT_.out (by kernel_rfl)) (fun _ _ _ h => h) (Or.inl ⟨by rfl, ?_⟩) ?_ ?_
            rotate_left
            · intro w'
              go_simp
              with_reducible rfl
            rotate_left
            · simp only [Act.put, List.setIfInBounds_toArray, List.set_cons_zero, List.set_cons_succ, i64_w, i32_w]
              rfl
            refine last_ (i := 16) (N := none) #[true, true, true, true, true, true, true, true, true, true, true, true, true, true, true, true, true] rfl rfl (one_of HT_.out (by kernel_rfl)) (by decide) (fun K hK => ?_)
            refine skip_ (w1 := ?_) (by rfl) rfl ?_ ?_
            rotate_left
            · go_simp
              rfl
            refine hK.out _ _ ?_
            clear hK K
            refine done_ (done_of HT_.out (by kernel_rfl)) ?_
            obtain ⟨V2, hV2⟩ : ∃ V2, V2 = wrap64 (V + wrap64 (2 * C)) := ⟨_, rfl⟩
            obtain ⟨W2, hW2⟩ : ∃ W2, W2 = (W1.setCell ⟨g1, n * 22 + d, none⟩ (.int .i64 V2)).drew := ⟨_, rfl⟩
            have hV2' := Aside0.mk hV2
            rw [← hV2, ← hW2]
            have BKp := Aside0.mk (show W2.heap[g1]? = some (.cells (tcs n d V2) 47 (0, 0)) by rw [hW2]; exact blk_drew (blk_put BKn.out _ _ (tcs_put n d V V2)))
            have BKq := Aside0.mk (show W2.heap[g0]? = some (.cells zc 47 (0, 0)) by rw [hW2]; exact blk_drew ((Below.heap_setCell _ _ _ _ NE.out).trans BKm.out))
            have HBp := Aside0.mk (show Below w.heap.size w W2 by rw [hW2]; exact below_drew1 (below_set HBn.out GE1.out))
            clear hW2 hV2 hyA hyB hfS hHeld HT_ HW_
            go_wp2
            go_roundg k1
            case measure => omega
            case rel => exact ⟨D1, by first | rfl | (rw [e2]) | (simp [*]; done), ⟨by have := HD.out; have := hD1'.out; omega⟩, ⟨by have := HD.out; have := C2.out; omega⟩, ⟨BKq.out⟩, ⟨by
              have h := BKp.out
              have hn := hN1'.out
              have h1 := HN1.out
              have h2 := C2.out
              rw [hV2'.out, hV'.out, hA'.out, hB'.out, hC'.out, hD1'.out, hD0'.out, tw_step N1 d (by clear e1 e2 e3; omega) C3.out, show N1 + 1 = n by clear e1 e2 e3; omega, tcs_done n d h2] at h
              rw [hD1'.out]; exact h⟩, ⟨HBp.out⟩⟩
        · have c2b : decide ((d : Int) ≤ wrap64 (20 - (n : Int))) = false := by rw [hw20]; exact decide_eq_false (by omega)
          have C2 := Aside0.mk c2
          clear c2 hw20
          go_wp2
          go_roundg ko
          case measure => omega
          case rel => exact ⟨n + 1, by have e9 : wrap64 ((n : Int) + 1) = ((n + 1 : Nat) : Int) := (by have := C1.out; clear c2b c1b; rw [w64 (by omega) (by omega)]; push_cast; rfl); rw [e9], ⟨by have := HN.out; omega⟩, ⟨by have := HN.out; have := C1.out; omega⟩, ⟨by omega⟩, ⟨BK0.out⟩, ⟨by
            have h := BK1.out
            have h1 := HD.out
            have h2 := HD1.out
            have h3 := C2.out
            rw [show tc n d = tc (n + 1) 0 by unfold tc; rw [tabL_row n d (by omega)]] at h
            exact h⟩, ⟨HB.out⟩⟩
    · have c1b : decide ((n : Int) ≤ 20) = false := decide_eq_false (by omega)
      have h21 : n = 21 := by have := HN.out; have := HNk.out; omega
      subst h21
      clear c1
      go_wp2_with (first | ((with_reducible refine gate_ (.load 47 (.tmp 1)) rfl ?_); refine load93 rfl 1 rfl (g := g1) (cs := tc 21 0) rfl BK1.out (tc_size _ _) ?_) | ((with_reducible refine gate_ (.store 47 (.tmp 0) (.tmp 55)) rfl ?_); refine store93 rfl 0 55 rfl (g := g0) (old := zc) (cs := tc 21 0) rfl rfl BK0.out (tc_size _ _) zc_size (tc_one _ _) ?_; intro w9 hbx hB hfar; have HB1 := Aside0.mk (hB _ _ HB.out GE0.out); clear BK0 BK1 HB hB hfar; have BK9 := Aside0.mk hbx; have HB := HB1; clear HB1 hbx))
      refine bodyPost_ret (results_cell_row rfl _ _ g0 47 (tc 21 0) (0, 0) _ rfl BK9.out und93 rfl (by rw [size93, tc_size])) rfl ?_
      exact ⟨rfl, HB.out⟩

def impl_endings.f : Option Bool := some true
theorem impl_endings.calls (r : Bool) (w : World) (h : impl_endings.f = some r) : Calls Try.prog 28 #[] w fun e w' => e = .returned (.agg (tc 21 0)) ∧ Below w.heap.size w w' := endings_calls w
theorem R_tabstore {α : Type} {d : Kd α} {e base g t : Nat} {ok : Nat → Prop} {w w1 : World} {v : Value} {xs : List α} {cells : Array Value} (h : d.R e w base ok v xs) (hb : w.heap[g]? = some (.cells cells t (0, 0))) (ht : ∀ q, q ∈ e :: d.E → q ≠ t) (hfar : ∀ k, k ≠ g → w1.heap[k]? = w.heap[k]?) : d.R e w1 base ok v xs :=
  Kd.R_mono (Kd.R_step (Kd.R_types h hb ht) (fun k hk _ => hfar k hk.2)) (fun _ hk => hk.1)
end Go.Proofs.Ythhmkkclmopkhaa.P
