import Derived.Test.YtepkfigcnnfoaaaPx0
import Derived.Test.YtepkfigcnnfoaaaDeep2
import Derived.Laws.Tables
import Derived.Deep.WholeRow
namespace Go.Proofs.Ytepkfigcnnfoaaa.P
open Go.RowKit Go.Proofs.YtepkfigcnnfoaaaW.PrintWords Go.Proofs.YtepkfigcnnfoaaaW.PrintLast Go.Proofs.YtepkfigcnnfoaaaW.PrintMore Go.Proofs.Ytepkfigcnnfoaaa.Deep
set_option linter.unusedVariables false
set_option linter.unusedSimpArgs false
theorem bi4 : (Try.prog.info? 4).map (fun i => (i.zero, i.size, i.bytes)) = some (some (.bool false), 1, 1) := by kernel_rfl
theorem bi2 : (Try.prog.info? 2).map (fun i => (i.zero, i.size, i.bytes)) = some (some (.int .i64 0), 1, 8) := by kernel_rfl
theorem bi47 : (Try.prog.info? 47).map (fun i => (i.zero, i.size, i.bytes)) = some (some (.agg #[.int .i64 0, .int .i64 0]), 2, 16) := by kernel_rfl
theorem bi48 : (Try.prog.info? 48).map (fun i => (i.zero, i.size, i.bytes)) = some (some (.slice none 0 0), 1, 24) := by kernel_rfl
theorem bi49 : (Try.prog.info? 49).map (fun i => (i.zero, i.size, i.bytes)) = some (some (.slice none 0 0), 1, 24) := by kernel_rfl
theorem bi25 : (Try.prog.info? 25).map (fun i => (i.zero, i.size, i.bytes)) = some (some (.slice none 0 0), 1, 24) := by kernel_rfl
theorem bap : Apart k47 4 47 48 2 49 25 27 := ⟨rfl, by decide, by decide, by decide, by decide, by decide, by decide⟩
abbrev AllB := All k47 4 47 48 2 49 25 27
def rowL (m : Nat) (back : Nat → Int) : List Int := (List.range (m + 1)).map back
def cellsC (m : Nat) (st : Int) (vA vC vR vI : Value) : Array Value := #[.int .i64 (m : Int), .int .i64 st, vA, vC, vR, vI]
abbrev nilV : Value := .slice none 0 0
theorem bw (x : Int) (h0 : -9223372036854775808 ≤ x) (h1 : x ≤ 9223372036854775807) : wrap64 x = x := by unfold wrap64; omega
section
variable {ops : Array Oper} {rest : List Oper} {o : Oper} {a : Act} {Q : Exit → Act → World → Prop} {W : World}
theorem size27 : (Try.prog.info? 27).map (·.size) = some 6 := by kernel_rfl
theorem load27 (hgd : o.guard = none) (p : Tmp) (ho : o.op = .load 27 (.tmp p)) {g : Nat} {cs : Array Value} (hx : a.eval (.tmp p) = .pointer (some ⟨g, 0, none⟩)) (hb : W.heap[g]? = some (.cells cs 27 (0, 0))) (hs : cs.size = 6)
    (h : wpList Try.prog ops Q rest (a.put o.dst (.agg cs)) W) : wpList Try.prog ops Q (o :: rest) a W := by
  refine wpList_plain hgd fun K hK => wp_load_row 27 _ ho g hx 27 cs (0, 0) _ hb Try.underlying27 rfl (by rw [size27, hs]) ?_
  exact hK _ _ h
theorem store27 (hgd : o.guard = none) (p v : Tmp) (ho : o.op = .store 27 (.tmp p) (.tmp v)) {g : Nat} {old cs : Array Value} (hx : a.eval (.tmp p) = .pointer (some ⟨g, 0, none⟩)) (hy : a.eval (.tmp v) = .agg cs) (hb : W.heap[g]? = some (.cells old 27 (0, 0)))
    (hs : cs.size = 6) (hs0 : old.size = 6) (h1 : cs.all (·.oneCell') = true)
    (h : ∀ w', w'.heap[g]? = some (.cells cs 27 (0, 0)) → (∀ B w0, Below B w0 W → B ≤ g → Below B w0 w') → (∀ k, k ≠ g → w'.heap[k]? = W.heap[k]?) → wpList Try.prog ops Q rest (a.put o.dst undef) w') : wpList Try.prog ops Q (o :: rest) a W := by
  refine wpList_plain hgd fun K hK => wp_store_row 27 _ _ ho g cs hx hy 27 old hb (by rw [size27, hs]) (by omega) h1 ?_
  exact hK _ _ (h _ (setRow_heap _ _ _ _ _ _ hb) (fun B w0 hB hle => hB.trans ⟨rfl, rfl, rfl, by simp, fun k hk => setRow_other _ _ _ _ (by omega)⟩) (fun k hk => setRow_other _ _ _ _ hk))
end
def cZ : Array Value := #[.int .i64 0, .int .i64 0, .slice none 0 0, .slice none 0 0, .slice none 0 0, .slice none 0 0]
theorem cellsC_one (m : Nat) (st : Int) {vA vC vR vI : Value} (h0 : vA.oneCell' = true) (h1 : vC.oneCell' = true) (h2 : vR.oneCell' = true) (h3 : vI.oneCell' = true) : (cellsC m st vA vC vR vI).all (·.oneCell') = true := by
  rw [Array.all_eq_true_iff_forall_mem]
  intro x hx
  unfold cellsC at hx
  rw [List.mem_toArray] at hx
  rcases List.mem_cons.1 hx with rfl | hx
  · rfl
  rcases List.mem_cons.1 hx with rfl | hx
  · rfl
  rcases List.mem_cons.1 hx with rfl | hx
  · exact h0
  rcases List.mem_cons.1 hx with rfl | hx
  · exact h1
  rcases List.mem_cons.1 hx with rfl | hx
  · exact h2
  rw [List.mem_singleton.1 hx]
  exact h3
theorem shapeR {α : Type} {d : Kd α} {e : TypeId} {w : World} {B : Nat} {ok : Nat → Prop} {v : Value} {xs : List α} (h : d.R e w B ok v xs) : ∃ A n c, v = .slice A n c := by
  obtain ⟨A, c, rfl, _, _⟩ := Kd.R_reads h
  exact ⟨_, _, _, rfl⟩
theorem shapeS {α : Type} {d : Kd α} {e : TypeId} {w : World} {B : Nat} {ok : Nat → Prop} {v : Value} {xs : List α} (h : Kd.S d e w B ok v xs) : ∃ A n c, v = .slice A n c := shapeR (Kd.S_R h)
theorem shapes {w w' : World} {gC gZ : Nat} {cC cZ : Array Value} {vA vC vR vI vc vb vi vl : Value} {LA : List Bool} {LC : List (List S47)} {LR : List (List (List Int))} {LI : List (List Int)} {lc : List S47} {lb : List (List Int)} {li ll : List Int} (h : AllB w w' gC gZ cC cZ vA vC vR vI vc vb vi vl LA LC LR LI lc lb li ll) : (∃ A n c, vl = .slice A n c) ∧ (∃ A n c, vc = .slice A n c) ∧ (∃ A n c, vb = .slice A n c) ∧ (∃ A n c, vi = .slice A n c) ∧ (∃ A n c, vA = .slice A n c) ∧ (∃ A n c, vC = .slice A n c) ∧ (∃ A n c, vR = .slice A n c) ∧ (∃ A n c, vI = .slice A n c) := by
  obtain ⟨_, _, _, _, f, h0, h1, h2, h3, h4, h5, h6, h7⟩ := h
  exact ⟨shapeR h7, shapeR h4, shapeS h5, shapeR h6, shapeR h0, shapeS h1, shapeS h2, shapeS h3⟩
theorem cells_one {m : Nat} {st : Int} {w w' : World} {gC gZ : Nat} {cC cZ : Array Value} {vA vC vR vI vc vb vi vl : Value} {LA : List Bool} {LC : List (List S47)} {LR : List (List (List Int))} {LI : List (List Int)} {lc : List S47} {lb : List (List Int)} {li ll : List Int} (h : AllB w w' gC gZ cC cZ vA vC vR vI vc vb vi vl LA LC LR LI lc lb li ll) : (cellsC m st vA vC vR vI).all (·.oneCell') = true := by
  obtain ⟨_, _, _, _, ⟨_, _, _, rfl⟩, ⟨_, _, _, rfl⟩, ⟨_, _, _, rfl⟩, ⟨_, _, _, rfl⟩⟩ := shapes h
  exact cellsC_one m st rfl rfl rfl rfl
/-- The rows that come of the first s states. -/
def LAs (acc : Nat → Bool) (s : Nat) : List Bool := (List.range s).map acc
def LCs (call : Nat → Nat → S47) (s : Nat) : List (List S47) := (List.range s).map fun q => [call q 0, call q 1]
def LRs (m : Nat) (back : Nat → Nat → Nat → Int) (s : Nat) : List (List (List Int)) := (List.range s).map fun q => [rowL m (back q 0), rowL m (back q 1)]
def LIs (inner : Nat → Nat → Int) (s : Nat) : List (List Int) := (List.range s).map fun q => [inner q 0, inner q 1]
theorem LAs_succ (acc : Nat → Bool) (s : Nat) : LAs acc (s + 1) = LAs acc s ++ [acc s] := by simp [LAs, List.range_succ]
theorem LCs_succ (call : Nat → Nat → S47) (s : Nat) : LCs call (s + 1) = LCs call s ++ [(List.range 2).map (call s)] := by simp [LCs, List.range_succ]
theorem LRs_succ (m : Nat) (back : Nat → Nat → Nat → Int) (s : Nat) : LRs m back (s + 1) = LRs m back s ++ [(List.range 2).map (fun k => rowL m (back s k))] := by simp [LRs, List.range_succ]
theorem LIs_succ (inner : Nat → Nat → Int) (s : Nat) : LIs inner (s + 1) = LIs inner s ++ [(List.range 2).map (inner s)] := by simp [LIs, List.range_succ]
theorem map_succ {α : Type} (f : Nat → α) (k : Nat) : (List.range (k + 1)).map f = (List.range k).map f ++ [f k] := by simp [List.range_succ]
def built.T17 : Bool × List (List Nat × List Nat) := (true, [([], []), ([0], [0]), ([], []), ([], []), ([2, 3], [2, 3]), ([4], [4]), ([1, 5, 4], [1, 5]), ([], []), ([7], [7]), ([], []), ([9], [9]), ([8, 10, 6], [8, 10]), ([], []), ([12], [12]), ([], []), ([14], [14]), ([13, 15, 11], [13, 15]), ([], []), ([17], [17]), ([], []), ([19], [19]), ([18, 20, 16], [18, 20]), ([0, 1, 2, 3, 4, 5, 6, 7, 8, 12, 13, 17, 18], []), ([22, 6, 21, 0, 1, 2, 3, 4, 5, 6, 7, 8, 12, 13, 17, 18], [6, 22]), ([0, 1, 2, 3, 4, 5, 6, 7, 8, 9, 10, 11, 12, 13, 17, 18, 22, 23], []), ([24, 11, 23, 0, 1, 2, 3, 4, 5, 6, 7, 8, 9, 10, 11, 12, 13, 17, 18, 22, 23], [11, 24]), ([0, 1, 2, 3, 4, 5, 6, 7, 8, 9, 10, 11, 12, 13, 14, 15, 16, 17, 18, 22, 23, 24, 25], []), ([26, 16, 25, 0, 1, 2, 3, 4, 5, 6, 7, 8, 9, 10, 11, 12, 13, 14, 15, 16, 17, 18, 22, 23, 24, 25], [16, 26]), ([0, 1, 2, 3, 4, 5, 6, 7, 8, 9, 10, 11, 12, 13, 14, 15, 16, 17, 18, 19, 20, 21, 22, 23, 24, 25, 26, 27], []), ([28, 21, 27, 0, 1, 2, 3, 4, 5, 6, 7, 8, 9, 10, 11, 12, 13, 14, 15, 16, 17, 18, 19, 20, 21, 22, 23, 24, 25, 26, 27], [21, 28])])
def built.B17 : List Nat := [0, 1, 0, 0, 12, 28, 63, 0, 128, 0, 512, 2047, 0, 4096, 0, 16384, 65535, 0, 131072, 0, 524288, 2097151, 406015, 8388607, 16777215, 33554431, 67108863, 134217727, 268435455, 536870911]
theorem built.tab17 : rtab .any (opsOf Try.f29 17) = built.T17 := by kernel_rfl
theorem built.bits17 : waitsOk built.T17.2 built.B17 = true := by kernel_rfl
/-- What 'built' hands back. -/
def OwnC (w : World) (B : Nat) (vA vC vR vI : Value) (LA : List Bool) (LC : List (List S47)) (LR : List (List (List Int))) (LI : List (List Int)) : Prop :=
  ∃ f : Nat → Nat, Kd.bool.R 4 w B (tg f 0) vA LA ∧ Kd.S (Kd.slice 47 k47) 48 w B (tg f 1) vC LC ∧ Kd.S (sliceS 49 (Kd.slice 2 (Kd.int .i64))) 25 w B (tg f 2) vR LR ∧ Kd.S (Kd.slice 2 (Kd.int .i64)) 49 w B (tg f 3) vI LI
theorem own_out {w w' : World} {gC gZ : Nat} {cC cZ : Array Value} {vA vC vR vI vc vb vi vl : Value} {LA : List Bool} {LC : List (List S47)} {LR : List (List (List Int))} {LI : List (List Int)} {lc : List S47} {lb : List (List Int)} {li ll : List Int} (h : AllB w w' gC gZ cC cZ vA vC vR vI vc vb vi vl LA LC LR LI lc lb li ll) {w9 : World} (hfar : ∀ k, k ≠ gZ → w9.heap[k]? = w'.heap[k]?) : OwnC w9 w.heap.size vA vC vR vI LA LC LR LI := by
  obtain ⟨_, _, hZ, _, f, h0, h1, h2, h3, _⟩ := h
  exact ⟨f, Kd.R_mono (Kd.R_step (Kd.R_types h0 hZ (by decide)) (fun k hk _ => hfar k hk.2)) (fun _ hk => hk.1), Kd.S_mono (Kd.S_step (Kd.S_types h1 hZ (by decide)) (fun k hk _ => hfar k hk.2)) (fun _ hk => hk.1), Kd.S_mono (Kd.S_step (Kd.S_types h2 hZ (by decide)) (fun k hk _ => hfar k hk.2)) (fun _ hk => hk.1), Kd.S_mono (Kd.S_step (Kd.S_types h3 hZ (by decide)) (fun k hk _ => hfar k hk.2)) (fun _ hk => hk.1)⟩
section
variable (n m : Nat) (st : Int) (w : World) (hn : n ≤ 2000) (hm : m ≤ 7000)
  (acc : Nat → Bool) (call : Nat → Nat → S47) (back : Nat → Nat → Nat → Int) (inner : Nat → Nat → Int)
  (ga gc gr gi : FuncId) (Fa Fc Fr Fi : Func) (ca cc cr ci : Array Value)
  (ha : Try.prog.funcs[ga]? = some Fa) (han : (Fa.name == "runtime.NumGoroutine") = false) (hab : Fa.body.isSome = true)
  (hc : Try.prog.funcs[gc]? = some Fc) (hcn : (Fc.name == "runtime.NumGoroutine") = false) (hcb : Fc.body.isSome = true)
  (hr : Try.prog.funcs[gr]? = some Fr) (hrn : (Fr.name == "runtime.NumGoroutine") = false) (hrb : Fr.body.isSome = true)
  (hi : Try.prog.funcs[gi]? = some Fi) (hin : (Fi.name == "runtime.NumGoroutine") = false) (hib : Fi.body.isSome = true)
  (HA : ∀ (s : Nat) (W : World), s < n → Below w.heap.size w W → Calls Try.prog ga (#[.int .i64 (s : Int)] ++ ca) W fun e W' => e = .returned (.bool (acc s)) ∧ Below W.heap.size W W')
  (HC : ∀ (s k : Nat) (W : World), s < n → k < 2 → Below w.heap.size w W → Calls Try.prog gc (#[.int .i64 (s : Int), .int .i64 (k : Int)] ++ cc) W fun e W' => e = .returned (.agg #[.int .i64 (call s k).f0, .int .i64 (call s k).f1]) ∧ Below W.heap.size W W')
  (HR : ∀ (s k x : Nat) (W : World), s < n → k < 2 → x < m + 1 → Below w.heap.size w W → Calls Try.prog gr (#[.int .i64 (s : Int), .int .i64 (k : Int), .int .i64 (x : Int)] ++ cr) W fun e W' => e = .returned (.int .i64 (back s k x)) ∧ Below W.heap.size W W')
  (HI : ∀ (s k : Nat) (W : World), s < n → k < 2 → Below w.heap.size w W → Calls Try.prog gi (#[.int .i64 (s : Int), .int .i64 (k : Int)] ++ ci) W fun e W' => e = .returned (.int .i64 (inner s k)) ∧ Below W.heap.size W W')
include hn hm ha han hab hc hcn hcb hr hrn hrb hi hin hib HA HC HR HI
set_option maxHeartbeats 4000000 in
set_option maxRecDepth 100000 in
theorem built_walk : Calls Try.prog 29 #[.int .i64 (n : Int), .int .i64 (m : Int), .int .i64 st, .func (.func ga) #[] ca, .func (.func gc) #[] cc, .func (.func gr) #[] cr, .func (.func gi) #[] ci] w fun e w' => ∃ vA vC vR vI : Value, e = .returned (.agg #[.int .i64 (m : Int), .int .i64 st, vA, vC, vR, vI]) ∧ OwnC w' w.heap.size vA vC vR vI (LAs acc n) (LCs call n) (LRs m back n) (LIs inner n) ∧ Below w.heap.size w w' := by
  have hu27 := Try.underlying27
  have HB := Aside0.mk (Below.refl w.heap.size w)
  have HN := Aside0.mk hn
  have HM := Aside0.mk hm
  have PA := Aside0.mk HA
  have PC := Aside0.mk HC
  have PR := Aside0.mk HR
  have PI := Aside0.mk HI
  have Qa := Aside0.mk ha
  have Qc := Aside0.mk hc
  have Qr := Aside0.mk hr
  have Qi := Aside0.mk hi
  have Qan := Aside0.mk han
  have Qcn := Aside0.mk hcn
  have Qrn := Aside0.mk hrn
  have Qin := Aside0.mk hin
  have Qab := Aside0.mk hab
  have Qcb := Aside0.mk hcb
  have Qrb := Aside0.mk hrb
  have Qib := Aside0.mk hib
  clear hn hm HA HC HR HI ha hc hr hi han hcn hrn hin hab hcb hrb hib
  go_enter Try.func29, Try.ntmps29
  go_wp2_with (first | ((with_reducible refine gate_dst (N := 14) rfl ?_); refine box_event ?hg (N := 14) ?hd (cs := cZ) (t := 27) ?hr ?_; (case hd => rfl); (case hg => rfl); (case hr => first | (go_simp; done) | (go_simp; rfl)); intro gZ hg w1 hbx hB; have BKZ := Aside0.mk hbx; have HB1 := Aside0.mk (below_step HB.out hB); have GZ := Aside0.mk (show w.heap.size ≤ gZ by rw [hg]; exact Nat.le_refl _); clear HB hbx hB hg; have HB := HB1; clear HB1) | ((with_reducible refine gate_dst (N := 15) rfl ?_); refine box_event ?hg (N := 15) ?hd (cs := cZ) (t := 27) ?hr ?_; (case hd => rfl); (case hg => rfl); (case hr => first | (go_simp; done) | (go_simp; rfl)); intro gC hg w2 hbx hB; have BKC := Aside0.mk hbx; have BK2 := Aside0.mk (blk_below BKZ.out hB); have NE := Aside0.mk (show gC ≠ gZ by rw [hg]; exact Nat.ne_of_gt (blk_lt BKZ.out)); have GC := Aside0.mk (show w.heap.size ≤ gC by rw [hg]; exact below_size HB.out); have HB1 := Aside0.mk (below_step HB.out hB); clear HB hbx hB hg BKZ; have HB := HB1; have BKZ := BK2; clear HB1 BK2) | ((with_reducible refine gate_ (.store 27 (.tmp 15) (.tmp 25)) rfl ?_); refine store27 rfl 15 25 rfl (g := gC) (old := cZ) (cs := cellsC m st nilV nilV nilV nilV) rfl rfl BKC.out rfl rfl (cellsC_one m st rfl rfl rfl rfl) ?_; intro w3 hbx hB hfar; have HO := Aside0.mk (show AllB w w3 gC gZ (cellsC m st nilV nilV nilV nilV) cZ nilV nilV nilV nilV nilV nilV nilV nilV (LAs acc 0) (LCs call 0) (LRs m back 0) (LIs inner 0) [] [] [] [] from ⟨hB _ _ HB.out GC.out, hbx, (hfar _ (Ne.symm NE.out)).trans BKZ.out, ⟨GC.out, GZ.out, NE.out⟩, fun _ => 0, Kd.R_nil _ _ _ _ _, Kd.S_nil _ _ _ _ _, Kd.S_nil _ _ _ _ _, Kd.S_nil _ _ _ _ _, Kd.R_nil _ _ _ _ _, Kd.S_nil _ _ _ _ _, Kd.R_nil _ _ _ _ _, Kd.R_nil _ _ _ _ _⟩); clear HB BKC BKZ hbx hB hfar))
  go_loopg [27] (n + 1) (fun kq v27 w' => ∃ (s : Nat) (vA vC vR vI : Value), v27 = .int .i64 (s : Int) ∧ Aside0 (kq + s = n + 1) ∧ Aside0 (s ≤ n) ∧ Aside0 (AllB w w' gC gZ (cellsC m st vA vC vR vI) cZ vA vC vR vI nilV nilV nilV nilV (LAs acc s) (LCs call s) (LRs m back s) (LIs inner s) [] [] [] []))
  case atStart => exact ⟨0, nilV, nilV, nilV, nilV, rfl, ⟨rfl⟩, ⟨Nat.zero_le _⟩, HO⟩
  case round =>
    clear HO
    obtain ⟨s, vA, vC, vR, vI, rfl, HK0, HS, HO⟩ := hrel
    by_cases hlt : s < n
    · have HL0 := Aside0.mk hlt
      have c1 : decide ((s : Int) < (n : Int)) = true := decide_eq_true (by omega)
      have c2 : decide (s < n) = true := decide_eq_true hlt
      clear hlt
      obtain ⟨gk0, rfl⟩ : ∃ q, gk = q + 1 := ⟨gk - 1, by have := HK0.out; have := HL0.out; omega⟩
      go_wp2_with (first | ((with_reducible refine gate_dst (N := 30) rfl ?_); refine All.lit_c bap HO.out ?hg (N := 30) ?hd ?hr ?_; (case hd => rfl); (case hg => rfl); (case hr => first | (go_simp; done) | (go_simp; rfl)); intro v30 w30 ho; clear HO; have HO := Aside0.mk ho; clear ho) | ((with_reducible refine gate_dst (N := 31) rfl ?_); refine All.lit_b bap HO.out ?hg (N := 31) ?hd ?hr ?_; (case hd => rfl); (case hg => rfl); (case hr => first | (go_simp; done) | (go_simp; rfl)); intro v31 w31 ho; clear HO; have HO := Aside0.mk ho; clear ho) | ((with_reducible refine gate_dst (N := 32) rfl ?_); refine All.lit_i bap HO.out ?hg (N := 32) ?hd ?hr ?_; (case hd => rfl); (case hg => rfl); (case hr => first | (go_simp; done) | (go_simp; rfl)); intro v32 w32 ho; clear HO; have HO := Aside0.mk ho; clear ho))
      clear c1 c2
      go_loopg [17, 18, 19, 33] 3 (fun kq v17 v18 v19 v33 w' => ∃ k : Nat, v33 = .int .i64 (k : Int) ∧ Aside0 (kq + k = 3) ∧ Aside0 (k ≤ 2) ∧ Aside0 (AllB w w' gC gZ (cellsC m st vA vC vR vI) cZ vA vC vR vI v17 v18 v19 nilV (LAs acc s) (LCs call s) (LRs m back s) (LIs inner s) ((List.range k).map (call s)) ((List.range k).map fun q => rowL m (back s q)) ((List.range k).map (inner s)) []))
      case atStart => exact ⟨0, rfl, ⟨rfl⟩, ⟨Nat.zero_le _⟩, HO⟩
      case round =>
        clear HO
        obtain ⟨k, rfl, HK1, HS1, HO⟩ := hrel
        by_cases hlt : k < 2
        · have HL1 := Aside0.mk hlt
          have c1 : decide ((k : Int) < 2) = true := decide_eq_true (by omega)
          have c2 : decide (k < 2) = true := decide_eq_true hlt
          clear hlt
          obtain ⟨gk1, rfl⟩ : ∃ q, gk = q + 1 := ⟨gk - 1, by have := HK1.out; have := HL1.out; omega⟩
          have hm1 : wrap64 ((m : Int) + 1) = (m : Int) + 1 := by have := HM.out; rw [bw _ (by omega) (by omega)]
          go_wp2_with ((with_reducible refine gate_dst (N := 36) rfl ?_); refine All.lit_l bap HO.out ?hg (N := 36) ?hd ?hr ?_; (case hd => rfl); (case hg => rfl); (case hr => first | (go_simp; done) | (go_simp; rfl)); intro v36 w36 ho; clear HO; have HO := Aside0.mk ho; clear ho)
          clear c1 c2
          rw [hm1]
          clear hm1
          go_loopg [21, 39] (m + 2) (fun kq v21 v39 w' => ∃ x : Nat, v39 = .int .i64 (x : Int) ∧ Aside0 (kq + x = m + 2) ∧ Aside0 (x ≤ m + 1) ∧ Aside0 (AllB w w' gC gZ (cellsC m st vA vC vR vI) cZ vA vC vR vI u17 u18 u19 v21 (LAs acc s) (LCs call s) (LRs m back s) (LIs inner s) ((List.range k).map (call s)) ((List.range k).map fun q => rowL m (back s q)) ((List.range k).map (inner s)) ((List.range x).map (back s k))))
          case atStart => exact ⟨0, rfl, ⟨rfl⟩, ⟨Nat.zero_le _⟩, HO⟩
          case round =>
            clear HO
            obtain ⟨x, rfl, HK2, HS2, HO⟩ := hrel
            by_cases hlt : x < m + 1
            · have HL2 := Aside0.mk hlt
              have c1 : decide ((x : Int) < (m : Int) + 1) = true := decide_eq_true (by omega)
              have c2 : decide (x < m + 1) = true := decide_eq_true hlt
              clear hlt
              obtain ⟨gk2, rfl⟩ : ∃ q, gk = q + 1 := ⟨gk - 1, by have := HK2.out; have := HL2.out; omega⟩
              go_wp2_with (first | ((with_reducible refine gate_value (t := 43) rfl ?_); refine goesVL_ (some 47) rfl rfl Qr.out Qrn.out Qrb.out #[.int .i64 (s : Int), .int .i64 (k : Int), .int .i64 (x : Int)] _ rfl (by rfl) (by (try simp only [List.map_toArray, List.map_cons, List.map_nil]); first | done | rfl) rfl ?_; refine (PR.out s k x _ HL0.out HL1.out HL2.out (All.blw HO.out)).mono ?_; rintro e w47 ⟨rfl, hb⟩; refine ⟨_, rfl, ?_⟩; have HO1 := Aside0.mk (All.below HO.out hb); clear HO hb; have HO := HO1; clear HO1) | ((with_reducible refine gate_builtin (b := .append) (xs := #[.tmp 42, .tmp 48]) rfl ?_); at_builtin; refine All.app_l bap HO.out rfl (.tmp 42) (.tmp 48) 49 (back s k x) rfl Try.underlying49 bi2 rfl rfl ?hl ?_; (case hl => (try simp only [List.length_map, List.length_range, List.length_nil]); have := HM.out; have := HN.out; have := HL2.out; omega); intro v49 w49 ho; clear HO; have HO := Aside0.mk (map_succ (back s k) x ▸ ho); clear ho))
              go_roundg gk2
              case measure => have := HK2.out; omega
              case rel => exact ⟨x + 1, by simp only [Value.int.injEq, true_and]; rw [bw _ (by omega) (by have := HM.out; have := HN.out; have := HL2.out; omega)]; omega, ⟨by have := HK2.out; omega⟩, ⟨by have := HL2.out; omega⟩, HO⟩
            · have HX := Aside0.mk (show x = m + 1 by have := HS2.out; omega)
              have c1 : decide ((x : Int) < (m : Int) + 1) = false := decide_eq_false (by omega)
              have c2 : decide (x < m + 1) = false := decide_eq_false hlt
              clear hlt
              obtain rfl := HX.out
              obtain ⟨⟨A21, n21, c21, rfl⟩, _⟩ := shapes HO.out
              go_wp2_with (first | ((with_reducible refine gate_value (t := 52) rfl ?_); refine goesVL_ (some 55) rfl rfl Qc.out Qcn.out Qcb.out #[.int .i64 (s : Int), .int .i64 (k : Int)] _ rfl (by rfl) (by (try simp only [List.map_toArray, List.map_cons, List.map_nil]); first | done | rfl) rfl ?_; refine (PC.out s k _ HL0.out HL1.out (All.blw HO.out)).mono ?_; rintro e w55 ⟨rfl, hb⟩; refine ⟨_, rfl, ?_⟩; have HO1 := Aside0.mk (All.below HO.out hb); clear HO hb; have HO := HO1; clear HO1) | ((with_reducible refine gate_value (t := 63) rfl ?_); refine goesVL_ (some 66) rfl rfl Qi.out Qin.out Qib.out #[.int .i64 (s : Int), .int .i64 (k : Int)] _ rfl (by rfl) (by (try simp only [List.map_toArray, List.map_cons, List.map_nil]); first | done | rfl) rfl ?_; refine (PI.out s k _ HL0.out HL1.out (All.blw HO.out)).mono ?_; rintro e w66 ⟨rfl, hb⟩; refine ⟨_, rfl, ?_⟩; have HO1 := Aside0.mk (All.below HO.out hb); clear HO hb; have HO := HO1; clear HO1) | ((with_reducible refine gate_builtin (b := .append) (xs := #[.tmp 51, .tmp 56]) rfl ?_); at_builtin; refine All.app_c bap HO.out rfl (.tmp 51) (.tmp 56) 48 (call s k) [.int .i64 (call s k).f0, .int .i64 (call s k).f1] (k47_mkM _ _ _ _) (.agg #[.int .i64 0, .int .i64 0]) 16 rfl (by decide) (by decide) rfl Try.underlying48 bi47 rfl rfl ?hl ?_; (case hl => (try simp only [List.length_map, List.length_range, List.length_nil]); have := HL1.out; omega); intro v57 w57 ho; clear HO; have HO := Aside0.mk (map_succ (call s) k ▸ ho); clear ho) | ((with_reducible refine gate_builtin (b := .append) (xs := #[.tmp 58, .tmp 60]) rfl ?_); at_builtin; refine All.app_b bap HO.out rfl (.tmp 58) (.tmp 60) 25  rfl Try.underlying25 bi49 rfl rfl ?hl ?_; (case hl => (try simp only [List.length_map, List.length_range, List.length_nil]); have := HL1.out; omega); intro v61 w61 ho; clear HO; have HO := Aside0.mk (map_succ (fun q => rowL m (back s q)) k ▸ ho); clear ho) | ((with_reducible refine gate_builtin (b := .append) (xs := #[.tmp 62, .tmp 67]) rfl ?_); at_builtin; refine All.app_i bap HO.out rfl (.tmp 62) (.tmp 67) 49 (inner s k) rfl Try.underlying49 bi2 rfl rfl ?hl ?_; (case hl => (try simp only [List.length_map, List.length_range, List.length_nil]); have := HL1.out; omega); intro v68 w68 ho; clear HO; have HO := Aside0.mk (map_succ (inner s) k ▸ ho); clear ho))
              go_roundg gk1
              case measure => have := HK1.out; omega
              case rel => exact ⟨k + 1, by simp only [Value.int.injEq, true_and]; rw [bw _ (by omega) (by have := HM.out; have := HN.out; have := HL1.out; omega)]; omega, ⟨by have := HK1.out; omega⟩, ⟨by have := HL1.out; omega⟩, HO⟩
        · have HX := Aside0.mk (show k = 2 by have := HS1.out; omega)
          have c1 : decide ((k : Int) < 2) = false := decide_eq_false (by omega)
          have c2 : decide (k < 2) = false := decide_eq_false hlt
          clear hlt
          obtain rfl := HX.out
          clear HX
          rw [show (List.range 2).map (fun q => rowL m (back s q)) = (List.range 2).map (fun q => rowL m (back s q)) from rfl] at HO
          obtain ⟨_, ⟨A17, n17, c17, rfl⟩, ⟨A18, n18, c18, rfl⟩, ⟨A19, n19, c19, rfl⟩, _⟩ := shapes HO.out
          go_wp2
          try clear hu27
          refine start_ (n := 30) (S := fun w' => True) (ds := []) #[false, false, false, false, false, false, false, false, false, false, false, false, false, false, false, false, false, false, false, false, false, false, false, false, false, false, false, false, false, false] (by kernel_rfl) rfl rfl trivial (fun hHeld => ?_)
          refine with_tabW built.tab17 built.bits17 (fun HT_ HW_ => ?_)
          have ALL0 := Aside0.mk (All.drew HO.out)
          have BX := Aside0.mk (All.boxC ALL0.out)
          clear HO
          generalize World.drew _ = wD at ALL0 BX hHeld ⊢
          refine pure_ (i := 0) (N := some 70) (v := ?_) (a' := ?_) #[true, false, false, false, false, false, false, false, false, false, false, false, false, false, false, false, false, false, false, false, false, false, false, false, false, false, false, false, false, false] rfl rfl (any_of HT_.out (by kernel_rfl)) (fun _ _ _ h => h) (Or.inl ⟨by rfl, ?_⟩) ?_ ?_
          rotate_left
          · intro w'
            go_simp
            with_reducible rfl
          rotate_left
          · simp only [Act.put, List.setIfInBounds_toArray, List.set_cons_zero, List.set_cons_succ, i64_w, i32_w]
            rfl
          refine pure_ (i := 2) (N := some 72) (v := ?_) (a' := ?_) #[true, false, true, false, false, false, false, false, false, false, false, false, false, false, false, false, false, false, false, false, false, false, false, false, false, false, false, false, false, false] rfl rfl (any_of HT_.out (by kernel_rfl)) (fun _ _ _ h => h) (Or.inl ⟨by rfl, ?_⟩) ?_ ?_
          rotate_left
          · intro w'
            go_simp
            with_reducible rfl
          rotate_left
          · simp only [Act.put, List.setIfInBounds_toArray, List.set_cons_zero, List.set_cons_succ, i64_w, i32_w]
            rfl
          refine pure_ (i := 3) (N := some 73) (v := ?_) (a' := ?_) #[true, false, true, true, false, false, false, false, false, false, false, false, false, false, false, false, false, false, false, false, false, false, false, false, false, false, false, false, false, false] rfl rfl (any_of HT_.out (by kernel_rfl)) (fun _ _ _ h => h) (Or.inl ⟨by rfl, ?_⟩) ?_ ?_
          rotate_left
          · intro w'
            go_simp
            with_reducible rfl
          rotate_left
          · simp only [Act.put, List.setIfInBounds_toArray, List.set_cons_zero, List.set_cons_succ, i64_w, i32_w]
            rfl
          refine pure_ (i := 7) (N := some 77) (v := ?_) (a' := ?_) #[true, false, true, true, false, false, false, true, false, false, false, false, false, false, false, false, false, false, false, false, false, false, false, false, false, false, false, false, false, false] rfl rfl (any_of HT_.out (by kernel_rfl)) (fun _ _ _ h => h) (Or.inl ⟨by rfl, ?_⟩) ?_ ?_
          rotate_left
          · intro w'
            go_simp
            with_reducible rfl
          rotate_left
          · simp only [Act.put, List.setIfInBounds_toArray, List.set_cons_zero, List.set_cons_succ, i64_w, i32_w]
            rfl
          refine pure_ (i := 9) (N := some 79) (v := ?_) (a' := ?_) #[true, false, true, true, false, false, false, true, false, true, false, false, false, false, false, false, false, false, false, false, false, false, false, false, false, false, false, false, false, false] rfl rfl (any_of HT_.out (by kernel_rfl)) (fun _ _ _ h => h) (Or.inl ⟨by rfl, ?_⟩) ?_ ?_
          rotate_left
          · intro w'
            go_simp
            with_reducible rfl
          rotate_left
          · simp only [Act.put, List.setIfInBounds_toArray, List.set_cons_zero, List.set_cons_succ, i64_w, i32_w]
            rfl
          refine pure_ (i := 12) (N := some 82) (v := ?_) (a' := ?_) #[true, false, true, true, false, false, false, true, false, true, false, false, true, false, false, false, false, false, false, false, false, false, false, false, false, false, false, false, false, false] rfl rfl (any_of HT_.out (by kernel_rfl)) (fun _ _ _ h => h) (Or.inl ⟨by rfl, ?_⟩) ?_ ?_
          rotate_left
          · intro w'
            go_simp
            with_reducible rfl
          rotate_left
          · simp only [Act.put, List.setIfInBounds_toArray, List.set_cons_zero, List.set_cons_succ, i64_w, i32_w]
            rfl
          refine pure_ (i := 14) (N := some 84) (v := ?_) (a' := ?_) #[true, false, true, true, false, false, false, true, false, true, false, false, true, false, true, false, false, false, false, false, false, false, false, false, false, false, false, false, false, false] rfl rfl (any_of HT_.out (by kernel_rfl)) (fun _ _ _ h => h) (Or.inl ⟨by rfl, ?_⟩) ?_ ?_
          rotate_left
          · intro w'
            go_simp
            with_reducible rfl
          rotate_left
          · simp only [Act.put, List.setIfInBounds_toArray, List.set_cons_zero, List.set_cons_succ, i64_w, i32_w]
            rfl
          refine pure_ (i := 17) (N := some 87) (v := ?_) (a' := ?_) #[true, false, true, true, false, false, false, true, false, true, false, false, true, false, true, false, false, true, false, false, false, false, false, false, false, false, false, false, false, false] rfl rfl (any_of HT_.out (by kernel_rfl)) (fun _ _ _ h => h) (Or.inl ⟨by rfl, ?_⟩) ?_ ?_
          rotate_left
          · intro w'
            go_simp
            with_reducible rfl
          rotate_left
          · simp only [Act.put, List.setIfInBounds_toArray, List.set_cons_zero, List.set_cons_succ, i64_w, i32_w]
            rfl
          refine pure_ (i := 19) (N := some 89) (v := ?_) (a' := ?_) #[true, false, true, true, false, false, false, true, false, true, false, false, true, false, true, false, false, true, false, true, false, false, false, false, false, false, false, false, false, false] rfl rfl (any_of HT_.out (by kernel_rfl)) (fun _ _ _ h => h) (Or.inl ⟨by rfl, ?_⟩) ?_ ?_
          rotate_left
          · intro w'
            go_simp
            with_reducible rfl
          rotate_left
          · simp only [Act.put, List.setIfInBounds_toArray, List.set_cons_zero, List.set_cons_succ, i64_w, i32_w]
            rfl
          refine inv_at [1, 4, 5, 6, 8, 10, 11, 13, 15, 16, 18, 20, 21, 22, 23, 24, 25, 26, 27, 28, 29] (fun a0_ b a w' => ∃ (r6 : Value) (r11 : Value) (r16 : Value) (r21 : Value) (b5 : Value) (b10 : Value) (b15 : Value) (b20 : Value), a = putSel a0_ b [(1, 71, vA), (4, 74, .bool (acc s)), (5, 75, b5), (6, 76, r6), (8, 78, vC), (10, 80, b10), (11, 81, r11), (13, 83, vR), (15, 85, b15), (16, 86, r16), (18, 88, vI), (20, 90, b20), (21, 91, r21), (22, 92, .pointer (some ⟨gC, 2, none⟩)), (24, 93, .pointer (some ⟨gC, 3, none⟩)), (26, 94, .pointer (some ⟨gC, 4, none⟩)), (28, 95, .pointer (some ⟨gC, 5, none⟩))] ∧ (b 6 = false → AllB w w' gC gZ (cellsC m st vA vC vR vI) cZ vA vC vR vI (.slice A17 n17 c17) (.slice A18 n18 c18) (.slice A19 n19 c19) nilV (LAs acc s) (LCs call s) (LRs m back s) (LIs inner s) ((List.range 2).map (call s)) ((List.range 2).map fun q => rowL m (back s q)) ((List.range 2).map (inner s)) []) ∧ (b 6 = true → b 11 = false → AllB w w' gC gZ (cellsC m st vA vC vR vI) cZ r6 vC vR vI (.slice A17 n17 c17) (.slice A18 n18 c18) (.slice A19 n19 c19) nilV ((LAs acc s) ++ [acc s]) (LCs call s) (LRs m back s) (LIs inner s) ((List.range 2).map (call s)) ((List.range 2).map fun q => rowL m (back s q)) ((List.range 2).map (inner s)) []) ∧ (b 11 = true → b 16 = false → AllB w w' gC gZ (cellsC m st vA vC vR vI) cZ r6 r11 vR vI (.slice none 0 0) (.slice A18 n18 c18) (.slice A19 n19 c19) nilV ((LAs acc s) ++ [acc s]) ((LCs call s) ++ [((List.range 2).map (call s))]) (LRs m back s) (LIs inner s) [] ((List.range 2).map fun q => rowL m (back s q)) ((List.range 2).map (inner s)) []) ∧ (b 16 = true → b 21 = false → AllB w w' gC gZ (cellsC m st vA vC vR vI) cZ r6 r11 r16 vI (.slice none 0 0) (.slice none 0 0) (.slice A19 n19 c19) nilV ((LAs acc s) ++ [acc s]) ((LCs call s) ++ [((List.range 2).map (call s))]) ((LRs m back s) ++ [((List.range 2).map fun q => rowL m (back s q))]) (LIs inner s) [] [] ((List.range 2).map (inner s)) []) ∧ (b 21 = true → b 23 = false → AllB w w' gC gZ (cellsC m st vA vC vR vI) cZ r6 r11 r16 r21 (.slice none 0 0) (.slice none 0 0) (.slice none 0 0) nilV ((LAs acc s) ++ [acc s]) ((LCs call s) ++ [((List.range 2).map (call s))]) ((LRs m back s) ++ [((List.range 2).map fun q => rowL m (back s q))]) ((LIs inner s) ++ [((List.range 2).map (inner s))]) [] [] [] []) ∧ (b 23 = true → b 25 = false → AllB w w' gC gZ (cellsC m st r6 vC vR vI) cZ r6 r11 r16 r21 (.slice none 0 0) (.slice none 0 0) (.slice none 0 0) nilV ((LAs acc s) ++ [acc s]) ((LCs call s) ++ [((List.range 2).map (call s))]) ((LRs m back s) ++ [((List.range 2).map fun q => rowL m (back s q))]) ((LIs inner s) ++ [((List.range 2).map (inner s))]) [] [] [] []) ∧ (b 25 = true → b 27 = false → AllB w w' gC gZ (cellsC m st r6 r11 vR vI) cZ r6 r11 r16 r21 (.slice none 0 0) (.slice none 0 0) (.slice none 0 0) nilV ((LAs acc s) ++ [acc s]) ((LCs call s) ++ [((List.range 2).map (call s))]) ((LRs m back s) ++ [((List.range 2).map fun q => rowL m (back s q))]) ((LIs inner s) ++ [((List.range 2).map (inner s))]) [] [] [] []) ∧ (b 27 = true → b 29 = false → AllB w w' gC gZ (cellsC m st r6 r11 r16 vI) cZ r6 r11 r16 r21 (.slice none 0 0) (.slice none 0 0) (.slice none 0 0) nilV ((LAs acc s) ++ [acc s]) ((LCs call s) ++ [((List.range 2).map (call s))]) ((LRs m back s) ++ [((List.range 2).map fun q => rowL m (back s q))]) ((LIs inner s) ++ [((List.range 2).map (inner s))]) [] [] [] []) ∧ (b 29 = true → AllB w w' gC gZ (cellsC m st r6 r11 r16 r21) cZ r6 r11 r16 r21 (.slice none 0 0) (.slice none 0 0) (.slice none 0 0) nilV ((LAs acc s) ++ [acc s]) ((LCs call s) ++ [((List.range 2).map (call s))]) ((LRs m back s) ++ [((List.range 2).map fun q => rowL m (back s q))]) ((LIs inner s) ++ [((List.range 2).map (inner s))]) [] [] [] []) ∧ (b 23 = false → w'.heap[gC]? = some (.cells (cellsC m st vA vC vR vI) 27 (0, 0))) ∧ (b 5 = true → b 6 = false → ∃ g_ : Nat, b5 = .slice (some ⟨g_, 0, none⟩) 1 1 ∧ w'.heap[g_]? = some (.cells [.bool (acc s)].toArray 4 (0, 0))) ∧ (b 10 = true → b 11 = false → ∃ g_ : Nat, b10 = .slice (some ⟨g_, 0, none⟩) 1 1 ∧ w'.heap[g_]? = some (.cells [.slice A17 n17 c17].toArray 48 (0, 0))) ∧ (b 15 = true → b 16 = false → ∃ g_ : Nat, b15 = .slice (some ⟨g_, 0, none⟩) 1 1 ∧ w'.heap[g_]? = some (.cells [.slice A18 n18 c18].toArray 25 (0, 0))) ∧ (b 20 = true → b 21 = false → ∃ g_ : Nat, b20 = .slice (some ⟨g_, 0, none⟩) 1 1 ∧ w'.heap[g_]? = some (.cells [.slice A19 n19 c19].toArray 49 (0, 0)))) HT_.out HW_.out (by kernel_rfl) (by kernel_rfl) ?_ ?_ ?_
          · exact ⟨.bool false, .bool false, .bool false, .bool false, .bool false, .bool false, .bool false, .bool false, by simp only [putSel, Bool.false_eq_true, if_false], fun _ => ALL0.out, fun h_ => absurd h_ (by decide), fun h_ => absurd h_ (by decide), fun h_ => absurd h_ (by decide), fun h_ => absurd h_ (by decide), fun h_ => absurd h_ (by decide), fun h_ => absurd h_ (by decide), fun h_ => absurd h_ (by decide), fun h_ => absurd h_ (by decide), fun _ => BX.out, fun h_ => absurd h_ (by decide), fun h_ => absurd h_ (by decide), fun h_ => absurd h_ (by decide), fun h_ => absurd h_ (by decide)⟩
          · skip
            clear ALL0 BX
            refine steps_cons ?_ ?_
            · rintro b a w' ⟨r6, r11, r16, r21, b5, b10, b15, b20, ha, Q_ALL0, Q_ALL1, Q_ALL2, Q_ALL3, Q_ALL4, Q_ALL5, Q_ALL6, Q_ALL7, Q_ALL8, Q_BX, Q_BK5, Q_BK10, Q_BK15, Q_BK20⟩ hb_ hon hoff
              refine ⟨_, rfl, fun K hK => ?_⟩
              have e70 : a.tmps[70]? = some (.pointer (some ⟨gC, 2, none⟩)) := by rw [ha]; exact (putSel_off rfl).trans rfl
              replace ha := Aside0.mk ha
              have ALL0 := Aside0.mk (Q_ALL0 (hoff 6 (by kernel_rfl)))
              have BX := Aside0.mk (Q_BX (hoff 23 (by kernel_rfl)))
              have hc_ : w'.cell? ⟨gC, 2, none⟩ = some (vA) := (blk_cell BX.out 2).trans rfl
              refine value_ (w1 := w') (v := vA) (by rfl) rfl ?_ ?_
              · go_simp
                (try simp only [i64_w])
                try rfl
              refine hK.out _ _ ⟨r6, r11, r16, r21, b5, b10, b15, b20, (by rw [ha.out]; exact putSel_upk 0 hb_ rfl rfl rfl), Q_ALL0, fun h0_ _ => absurd ((hoff 6 (by kernel_rfl)).symm.trans h0_) (by decide), fun h0_ _ => absurd ((hoff 11 (by kernel_rfl)).symm.trans h0_) (by decide), fun h0_ _ => absurd ((hoff 16 (by kernel_rfl)).symm.trans h0_) (by decide), fun h0_ _ => absurd ((hoff 21 (by kernel_rfl)).symm.trans h0_) (by decide), fun h0_ _ => absurd ((hoff 23 (by kernel_rfl)).symm.trans h0_) (by decide), fun h0_ _ => absurd ((hoff 25 (by kernel_rfl)).symm.trans h0_) (by decide), fun h0_ _ => absurd ((hoff 27 (by kernel_rfl)).symm.trans h0_) (by decide), fun h0_ => absurd ((hoff 29 (by kernel_rfl)).symm.trans h0_) (by decide), Q_BX, Q_BK5, Q_BK10, Q_BK15, Q_BK20⟩
            refine steps_cons ?_ ?_
            · rintro b a w' ⟨r6, r11, r16, r21, b5, b10, b15, b20, ha, Q_ALL0, Q_ALL1, Q_ALL2, Q_ALL3, Q_ALL4, Q_ALL5, Q_ALL6, Q_ALL7, Q_ALL8, Q_BX, Q_BK5, Q_BK10, Q_BK15, Q_BK20⟩ hb_ hon hoff
              refine ⟨_, rfl, fun K hK => ?_⟩
              have e72 : a.tmps[72]? = some (.func (.func ga) #[] ca) := by rw [ha]; exact (putSel_off rfl).trans rfl
              have e73 : a.tmps[73]? = some (.int .i64 (s : Int)) := by rw [ha]; exact (putSel_off rfl).trans rfl
              replace ha := Aside0.mk ha
              have ALL0 := Aside0.mk (Q_ALL0 (hoff 6 (by kernel_rfl)))
              have BX := Aside0.mk (Q_BX (hoff 23 (by kernel_rfl)))
              refine goesV_ Qa.out Qan.out Qab.out #[.int .i64 (s : Int)] _ (by rfl) rfl rfl (eval_of e72) (by simp only [List.map_toArray, List.map_cons, List.map_nil, eval_of e73]) rfl ?_
              refine (PA.out s _ HL0.out (All.blw ALL0.out)).mono ?_
              rintro e w74 ⟨rfl, hb⟩
              refine ⟨_, rfl, ?_⟩
              refine hK.out _ _ ⟨r6, r11, r16, r21, b5, b10, b15, b20, (by rw [ha.out]; exact putSel_upk 1 hb_ rfl rfl rfl), fun _ => All.below (ALL0.out) hb, fun h0_ _ => absurd ((hoff 6 (by kernel_rfl)).symm.trans h0_) (by decide), fun h0_ _ => absurd ((hoff 11 (by kernel_rfl)).symm.trans h0_) (by decide), fun h0_ _ => absurd ((hoff 16 (by kernel_rfl)).symm.trans h0_) (by decide), fun h0_ _ => absurd ((hoff 21 (by kernel_rfl)).symm.trans h0_) (by decide), fun h0_ _ => absurd ((hoff 23 (by kernel_rfl)).symm.trans h0_) (by decide), fun h0_ _ => absurd ((hoff 25 (by kernel_rfl)).symm.trans h0_) (by decide), fun h0_ _ => absurd ((hoff 27 (by kernel_rfl)).symm.trans h0_) (by decide), fun h0_ => absurd ((hoff 29 (by kernel_rfl)).symm.trans h0_) (by decide), fun _ => blk_below (BX.out) hb, fun h0_ _ => absurd ((hoff 5 (by kernel_rfl)).symm.trans h0_) (by decide), fun h0_ h1_ => (by obtain ⟨g_, hb_, hg_⟩ := (Q_BK10 h0_ h1_); exact ⟨g_, hb_, blk_below (hg_) hb⟩), fun h0_ h1_ => (by obtain ⟨g_, hb_, hg_⟩ := (Q_BK15 h0_ h1_); exact ⟨g_, hb_, blk_below (hg_) hb⟩), fun h0_ h1_ => (by obtain ⟨g_, hb_, hg_⟩ := (Q_BK20 h0_ h1_); exact ⟨g_, hb_, blk_below (hg_) hb⟩)⟩
            refine steps_cons ?_ ?_
            · rintro b a w' ⟨r6, r11, r16, r21, b5, b10, b15, b20, ha, Q_ALL0, Q_ALL1, Q_ALL2, Q_ALL3, Q_ALL4, Q_ALL5, Q_ALL6, Q_ALL7, Q_ALL8, Q_BX, Q_BK5, Q_BK10, Q_BK15, Q_BK20⟩ hb_ hon hoff
              refine ⟨_, rfl, fun K hK => ?_⟩
              have e74 : a.tmps[74]? = some (.bool (acc s)) := by rw [ha]; exact putSel_on (e := (4, 74, .bool (acc s))) 1 rfl rfl (hon 4 (by kernel_rfl)) rfl
              replace ha := Aside0.mk ha
              have ALL0 := Aside0.mk (Q_ALL0 (hoff 6 (by kernel_rfl)))
              have BX := Aside0.mk (Q_BX (hoff 23 (by kernel_rfl)))
              refine value_ (w1 := ?_) (v := ?_) (by rfl) rfl ?_ ?_
              rotate_left 2
              · go_simp
                constructor
                · rfl
                · rfl
              refine hK.out _ _ ⟨r6, r11, r16, r21, .slice (some ⟨w'.heap.size, 0, none⟩) 1 1, b10, b15, b20, (by rw [ha.out]; exact putSel_upk 2 hb_ rfl rfl rfl), fun _ => All.alloc (ALL0.out) _, fun h0_ _ => absurd ((hoff 6 (by kernel_rfl)).symm.trans h0_) (by decide), fun h0_ _ => absurd ((hoff 11 (by kernel_rfl)).symm.trans h0_) (by decide), fun h0_ _ => absurd ((hoff 16 (by kernel_rfl)).symm.trans h0_) (by decide), fun h0_ _ => absurd ((hoff 21 (by kernel_rfl)).symm.trans h0_) (by decide), fun h0_ _ => absurd ((hoff 23 (by kernel_rfl)).symm.trans h0_) (by decide), fun h0_ _ => absurd ((hoff 25 (by kernel_rfl)).symm.trans h0_) (by decide), fun h0_ _ => absurd ((hoff 27 (by kernel_rfl)).symm.trans h0_) (by decide), fun h0_ => absurd ((hoff 29 (by kernel_rfl)).symm.trans h0_) (by decide), fun _ => blk_alloc (BX.out) _, fun _ _ => ⟨w'.heap.size, rfl, heap_alloc_new w' _⟩, fun h0_ h1_ => (by obtain ⟨g_, hb_, hg_⟩ := (Q_BK10 h0_ h1_); exact ⟨g_, hb_, blk_alloc (hg_) _⟩), fun h0_ h1_ => (by obtain ⟨g_, hb_, hg_⟩ := (Q_BK15 h0_ h1_); exact ⟨g_, hb_, blk_alloc (hg_) _⟩), fun h0_ h1_ => (by obtain ⟨g_, hb_, hg_⟩ := (Q_BK20 h0_ h1_); exact ⟨g_, hb_, blk_alloc (hg_) _⟩)⟩
            refine steps_cons ?_ ?_
            · rintro b a w' ⟨r6, r11, r16, r21, b5, b10, b15, b20, ha, Q_ALL0, Q_ALL1, Q_ALL2, Q_ALL3, Q_ALL4, Q_ALL5, Q_ALL6, Q_ALL7, Q_ALL8, Q_BX, Q_BK5, Q_BK10, Q_BK15, Q_BK20⟩ hb_ hon hoff
              refine ⟨_, rfl, fun K hK => ?_⟩
              have e71 : a.tmps[71]? = some (vA) := by rw [ha]; exact putSel_on (e := (1, 71, vA)) 0 rfl rfl (hon 1 (by kernel_rfl)) rfl
              have e75 : a.tmps[75]? = some (b5) := by rw [ha]; exact putSel_on (e := (5, 75, b5)) 2 rfl rfl (hon 5 (by kernel_rfl)) rfl
              replace ha := Aside0.mk ha
              have ALL0 := Aside0.mk (Q_ALL0 hb_)
              have BX := Aside0.mk (Q_BX (hoff 23 (by kernel_rfl)))
              have BK5 := Aside0.mk (Q_BK5 (hon 5 (by kernel_rfl)) hb_)
              obtain ⟨g_, hq_, hg_⟩ := BK5.out
              refine All.app_A bap ALL0.out (by rfl) (.tmp 71) (.tmp 75) 22 (acc s) rfl Try.underlying22 bi4 (eval_of e71) g_ ((eval_of e75).trans hq_) hg_ (by simp only [LAs, LCs, LRs, LIs, List.length_map, List.length_range]; have := HL0.out; have := HN.out; omega) ?_
              intro v_ w_ ho hfar
              refine hK.out _ _ ⟨v_, r11, r16, r21, b5, b10, b15, b20, (by rw [ha.out]; exact putSel_upk 3 hb_ rfl rfl rfl), fun h0_ => absurd ((up_self b 6).symm.trans h0_) (by decide), fun _ _ => ho, fun h0_ _ => absurd ((hoff 11 (by kernel_rfl)).symm.trans h0_) (by decide), fun h0_ _ => absurd ((hoff 16 (by kernel_rfl)).symm.trans h0_) (by decide), fun h0_ _ => absurd ((hoff 21 (by kernel_rfl)).symm.trans h0_) (by decide), fun h0_ _ => absurd ((hoff 23 (by kernel_rfl)).symm.trans h0_) (by decide), fun h0_ _ => absurd ((hoff 25 (by kernel_rfl)).symm.trans h0_) (by decide), fun h0_ _ => absurd ((hoff 27 (by kernel_rfl)).symm.trans h0_) (by decide), fun h0_ => absurd ((hoff 29 (by kernel_rfl)).symm.trans h0_) (by decide), fun _ => hfar _ _ _ (BX.out) (by decide), fun _ h1_ => absurd ((up_self b 6).symm.trans h1_) (by decide), fun h0_ h1_ => (by obtain ⟨g_, hb_, hg_⟩ := (Q_BK10 h0_ h1_); exact ⟨g_, hb_, hfar _ _ _ (hg_) (by decide)⟩), fun h0_ h1_ => (by obtain ⟨g_, hb_, hg_⟩ := (Q_BK15 h0_ h1_); exact ⟨g_, hb_, hfar _ _ _ (hg_) (by decide)⟩), fun h0_ h1_ => (by obtain ⟨g_, hb_, hg_⟩ := (Q_BK20 h0_ h1_); exact ⟨g_, hb_, hfar _ _ _ (hg_) (by decide)⟩)⟩
            refine steps_cons ?_ ?_
            · rintro b a w' ⟨r6, r11, r16, r21, b5, b10, b15, b20, ha, Q_ALL0, Q_ALL1, Q_ALL2, Q_ALL3, Q_ALL4, Q_ALL5, Q_ALL6, Q_ALL7, Q_ALL8, Q_BX, Q_BK5, Q_BK10, Q_BK15, Q_BK20⟩ hb_ hon hoff
              refine ⟨_, rfl, fun K hK => ?_⟩
              have e77 : a.tmps[77]? = some (.pointer (some ⟨gC, 3, none⟩)) := by rw [ha]; exact (putSel_off rfl).trans rfl
              replace ha := Aside0.mk ha
              have BX := Aside0.mk (Q_BX (hoff 23 (by kernel_rfl)))
              have hc_ : w'.cell? ⟨gC, 3, none⟩ = some (vC) := (blk_cell BX.out 3).trans rfl
              refine value_ (w1 := w') (v := vC) (by rfl) rfl ?_ ?_
              · go_simp
                (try simp only [i64_w])
                try rfl
              refine hK.out _ _ ⟨r6, r11, r16, r21, b5, b10, b15, b20, (by rw [ha.out]; exact putSel_upk 4 hb_ rfl rfl rfl), Q_ALL0, Q_ALL1, fun h0_ _ => absurd ((hoff 11 (by kernel_rfl)).symm.trans h0_) (by decide), fun h0_ _ => absurd ((hoff 16 (by kernel_rfl)).symm.trans h0_) (by decide), fun h0_ _ => absurd ((hoff 21 (by kernel_rfl)).symm.trans h0_) (by decide), fun h0_ _ => absurd ((hoff 23 (by kernel_rfl)).symm.trans h0_) (by decide), fun h0_ _ => absurd ((hoff 25 (by kernel_rfl)).symm.trans h0_) (by decide), fun h0_ _ => absurd ((hoff 27 (by kernel_rfl)).symm.trans h0_) (by decide), fun h0_ => absurd ((hoff 29 (by kernel_rfl)).symm.trans h0_) (by decide), Q_BX, Q_BK5, Q_BK10, Q_BK15, Q_BK20⟩
            refine steps_cons ?_ ?_
            · rintro b a w' ⟨r6, r11, r16, r21, b5, b10, b15, b20, ha, Q_ALL0, Q_ALL1, Q_ALL2, Q_ALL3, Q_ALL4, Q_ALL5, Q_ALL6, Q_ALL7, Q_ALL8, Q_BX, Q_BK5, Q_BK10, Q_BK15, Q_BK20⟩ hb_ hon hoff
              refine ⟨_, rfl, fun K hK => ?_⟩
              have e79 : a.tmps[79]? = some (.slice A17 n17 c17) := by rw [ha]; exact (putSel_off rfl).trans rfl
              replace ha := Aside0.mk ha
              have BX := Aside0.mk (Q_BX (hoff 23 (by kernel_rfl)))
              refine value_ (w1 := ?_) (v := ?_) (by rfl) rfl ?_ ?_
              rotate_left 2
              · go_simp
                constructor
                · rfl
                · rfl
              refine hK.out _ _ ⟨r6, r11, r16, r21, b5, .slice (some ⟨w'.heap.size, 0, none⟩) 1 1, b15, b20, (by rw [ha.out]; exact putSel_upk 5 hb_ rfl rfl rfl), fun h0_ => All.alloc ((Q_ALL0 h0_)) _, fun h0_ h1_ => All.alloc ((Q_ALL1 h0_ h1_)) _, fun h0_ _ => absurd ((hoff 11 (by kernel_rfl)).symm.trans h0_) (by decide), fun h0_ _ => absurd ((hoff 16 (by kernel_rfl)).symm.trans h0_) (by decide), fun h0_ _ => absurd ((hoff 21 (by kernel_rfl)).symm.trans h0_) (by decide), fun h0_ _ => absurd ((hoff 23 (by kernel_rfl)).symm.trans h0_) (by decide), fun h0_ _ => absurd ((hoff 25 (by kernel_rfl)).symm.trans h0_) (by decide), fun h0_ _ => absurd ((hoff 27 (by kernel_rfl)).symm.trans h0_) (by decide), fun h0_ => absurd ((hoff 29 (by kernel_rfl)).symm.trans h0_) (by decide), fun _ => blk_alloc (BX.out) _, fun h0_ h1_ => (by obtain ⟨g_, hb_, hg_⟩ := (Q_BK5 h0_ h1_); exact ⟨g_, hb_, blk_alloc (hg_) _⟩), fun _ _ => ⟨w'.heap.size, rfl, heap_alloc_new w' _⟩, fun h0_ h1_ => (by obtain ⟨g_, hb_, hg_⟩ := (Q_BK15 h0_ h1_); exact ⟨g_, hb_, blk_alloc (hg_) _⟩), fun h0_ h1_ => (by obtain ⟨g_, hb_, hg_⟩ := (Q_BK20 h0_ h1_); exact ⟨g_, hb_, blk_alloc (hg_) _⟩)⟩
            refine steps_cons ?_ ?_
            · rintro b a w' ⟨r6, r11, r16, r21, b5, b10, b15, b20, ha, Q_ALL0, Q_ALL1, Q_ALL2, Q_ALL3, Q_ALL4, Q_ALL5, Q_ALL6, Q_ALL7, Q_ALL8, Q_BX, Q_BK5, Q_BK10, Q_BK15, Q_BK20⟩ hb_ hon hoff
              refine ⟨_, rfl, fun K hK => ?_⟩
              have e78 : a.tmps[78]? = some (vC) := by rw [ha]; exact putSel_on (e := (8, 78, vC)) 4 rfl rfl (hon 8 (by kernel_rfl)) rfl
              have e80 : a.tmps[80]? = some (b10) := by rw [ha]; exact putSel_on (e := (10, 80, b10)) 5 rfl rfl (hon 10 (by kernel_rfl)) rfl
              replace ha := Aside0.mk ha
              have ALL1 := Aside0.mk (Q_ALL1 (hon 6 (by kernel_rfl)) hb_)
              have BX := Aside0.mk (Q_BX (hoff 23 (by kernel_rfl)))
              have BK10 := Aside0.mk (Q_BK10 (hon 10 (by kernel_rfl)) hb_)
              obtain ⟨g_, hq_, hg_⟩ := BK10.out
              refine All.app_C bap ALL1.out (by rfl) (.tmp 78) (.tmp 80) 23 rfl Try.underlying23 bi48 (eval_of e78) g_ ((eval_of e80).trans hq_) hg_ (by simp only [LAs, LCs, LRs, LIs, List.length_map, List.length_range]; have := HL0.out; have := HN.out; omega) ?_
              intro v_ w_ ho hfar
              refine hK.out _ _ ⟨r6, v_, r16, r21, b5, b10, b15, b20, (by rw [ha.out]; exact putSel_upk 6 hb_ rfl rfl rfl), fun h0_ => absurd ((hon 6 (by kernel_rfl)).symm.trans h0_) (by decide), fun _ h1_ => absurd ((up_self b 11).symm.trans h1_) (by decide), fun _ _ => ho, fun h0_ _ => absurd ((hoff 16 (by kernel_rfl)).symm.trans h0_) (by decide), fun h0_ _ => absurd ((hoff 21 (by kernel_rfl)).symm.trans h0_) (by decide), fun h0_ _ => absurd ((hoff 23 (by kernel_rfl)).symm.trans h0_) (by decide), fun h0_ _ => absurd ((hoff 25 (by kernel_rfl)).symm.trans h0_) (by decide), fun h0_ _ => absurd ((hoff 27 (by kernel_rfl)).symm.trans h0_) (by decide), fun h0_ => absurd ((hoff 29 (by kernel_rfl)).symm.trans h0_) (by decide), fun _ => hfar _ _ _ (BX.out) (by decide), fun _ h1_ => absurd ((hon 6 (by kernel_rfl)).symm.trans h1_) (by decide), fun _ h1_ => absurd ((up_self b 11).symm.trans h1_) (by decide), fun h0_ h1_ => (by obtain ⟨g_, hb_, hg_⟩ := (Q_BK15 h0_ h1_); exact ⟨g_, hb_, hfar _ _ _ (hg_) (by decide)⟩), fun h0_ h1_ => (by obtain ⟨g_, hb_, hg_⟩ := (Q_BK20 h0_ h1_); exact ⟨g_, hb_, hfar _ _ _ (hg_) (by decide)⟩)⟩
            refine steps_cons ?_ ?_
            · rintro b a w' ⟨r6, r11, r16, r21, b5, b10, b15, b20, ha, Q_ALL0, Q_ALL1, Q_ALL2, Q_ALL3, Q_ALL4, Q_ALL5, Q_ALL6, Q_ALL7, Q_ALL8, Q_BX, Q_BK5, Q_BK10, Q_BK15, Q_BK20⟩ hb_ hon hoff
              refine ⟨_, rfl, fun K hK => ?_⟩
              have e82 : a.tmps[82]? = some (.pointer (some ⟨gC, 4, none⟩)) := by rw [ha]; exact (putSel_off rfl).trans rfl
              replace ha := Aside0.mk ha
              have BX := Aside0.mk (Q_BX (hoff 23 (by kernel_rfl)))
              have hc_ : w'.cell? ⟨gC, 4, none⟩ = some (vR) := (blk_cell BX.out 4).trans rfl
              refine value_ (w1 := w') (v := vR) (by rfl) rfl ?_ ?_
              · go_simp
                (try simp only [i64_w])
                try rfl
              refine hK.out _ _ ⟨r6, r11, r16, r21, b5, b10, b15, b20, (by rw [ha.out]; exact putSel_upk 7 hb_ rfl rfl rfl), Q_ALL0, Q_ALL1, Q_ALL2, fun h0_ _ => absurd ((hoff 16 (by kernel_rfl)).symm.trans h0_) (by decide), fun h0_ _ => absurd ((hoff 21 (by kernel_rfl)).symm.trans h0_) (by decide), fun h0_ _ => absurd ((hoff 23 (by kernel_rfl)).symm.trans h0_) (by decide), fun h0_ _ => absurd ((hoff 25 (by kernel_rfl)).symm.trans h0_) (by decide), fun h0_ _ => absurd ((hoff 27 (by kernel_rfl)).symm.trans h0_) (by decide), fun h0_ => absurd ((hoff 29 (by kernel_rfl)).symm.trans h0_) (by decide), Q_BX, Q_BK5, Q_BK10, Q_BK15, Q_BK20⟩
            refine steps_cons ?_ ?_
            · rintro b a w' ⟨r6, r11, r16, r21, b5, b10, b15, b20, ha, Q_ALL0, Q_ALL1, Q_ALL2, Q_ALL3, Q_ALL4, Q_ALL5, Q_ALL6, Q_ALL7, Q_ALL8, Q_BX, Q_BK5, Q_BK10, Q_BK15, Q_BK20⟩ hb_ hon hoff
              refine ⟨_, rfl, fun K hK => ?_⟩
              have e84 : a.tmps[84]? = some (.slice A18 n18 c18) := by rw [ha]; exact (putSel_off rfl).trans rfl
              replace ha := Aside0.mk ha
              have BX := Aside0.mk (Q_BX (hoff 23 (by kernel_rfl)))
              refine value_ (w1 := ?_) (v := ?_) (by rfl) rfl ?_ ?_
              rotate_left 2
              · go_simp
                constructor
                · rfl
                · rfl
              refine hK.out _ _ ⟨r6, r11, r16, r21, b5, b10, .slice (some ⟨w'.heap.size, 0, none⟩) 1 1, b20, (by rw [ha.out]; exact putSel_upk 8 hb_ rfl rfl rfl), fun h0_ => All.alloc ((Q_ALL0 h0_)) _, fun h0_ h1_ => All.alloc ((Q_ALL1 h0_ h1_)) _, fun h0_ h1_ => All.alloc ((Q_ALL2 h0_ h1_)) _, fun h0_ _ => absurd ((hoff 16 (by kernel_rfl)).symm.trans h0_) (by decide), fun h0_ _ => absurd ((hoff 21 (by kernel_rfl)).symm.trans h0_) (by decide), fun h0_ _ => absurd ((hoff 23 (by kernel_rfl)).symm.trans h0_) (by decide), fun h0_ _ => absurd ((hoff 25 (by kernel_rfl)).symm.trans h0_) (by decide), fun h0_ _ => absurd ((hoff 27 (by kernel_rfl)).symm.trans h0_) (by decide), fun h0_ => absurd ((hoff 29 (by kernel_rfl)).symm.trans h0_) (by decide), fun _ => blk_alloc (BX.out) _, fun h0_ h1_ => (by obtain ⟨g_, hb_, hg_⟩ := (Q_BK5 h0_ h1_); exact ⟨g_, hb_, blk_alloc (hg_) _⟩), fun h0_ h1_ => (by obtain ⟨g_, hb_, hg_⟩ := (Q_BK10 h0_ h1_); exact ⟨g_, hb_, blk_alloc (hg_) _⟩), fun _ _ => ⟨w'.heap.size, rfl, heap_alloc_new w' _⟩, fun h0_ h1_ => (by obtain ⟨g_, hb_, hg_⟩ := (Q_BK20 h0_ h1_); exact ⟨g_, hb_, blk_alloc (hg_) _⟩)⟩
            refine steps_cons ?_ ?_
            · rintro b a w' ⟨r6, r11, r16, r21, b5, b10, b15, b20, ha, Q_ALL0, Q_ALL1, Q_ALL2, Q_ALL3, Q_ALL4, Q_ALL5, Q_ALL6, Q_ALL7, Q_ALL8, Q_BX, Q_BK5, Q_BK10, Q_BK15, Q_BK20⟩ hb_ hon hoff
              refine ⟨_, rfl, fun K hK => ?_⟩
              have e83 : a.tmps[83]? = some (vR) := by rw [ha]; exact putSel_on (e := (13, 83, vR)) 7 rfl rfl (hon 13 (by kernel_rfl)) rfl
              have e85 : a.tmps[85]? = some (b15) := by rw [ha]; exact putSel_on (e := (15, 85, b15)) 8 rfl rfl (hon 15 (by kernel_rfl)) rfl
              replace ha := Aside0.mk ha
              have ALL2 := Aside0.mk (Q_ALL2 (hon 11 (by kernel_rfl)) hb_)
              have BX := Aside0.mk (Q_BX (hoff 23 (by kernel_rfl)))
              have BK15 := Aside0.mk (Q_BK15 (hon 15 (by kernel_rfl)) hb_)
              obtain ⟨g_, hq_, hg_⟩ := BK15.out
              refine All.app_R bap ALL2.out (by rfl) (.tmp 83) (.tmp 85) 24 rfl Try.underlying24 bi25 (eval_of e83) g_ ((eval_of e85).trans hq_) hg_ (by simp only [LAs, LCs, LRs, LIs, List.length_map, List.length_range]; have := HL0.out; have := HN.out; omega) ?_
              intro v_ w_ ho hfar
              refine hK.out _ _ ⟨r6, r11, v_, r21, b5, b10, b15, b20, (by rw [ha.out]; exact putSel_upk 9 hb_ rfl rfl rfl), fun h0_ => absurd ((hon 6 (by kernel_rfl)).symm.trans h0_) (by decide), fun _ h1_ => absurd ((hon 11 (by kernel_rfl)).symm.trans h1_) (by decide), fun _ h1_ => absurd ((up_self b 16).symm.trans h1_) (by decide), fun _ _ => ho, fun h0_ _ => absurd ((hoff 21 (by kernel_rfl)).symm.trans h0_) (by decide), fun h0_ _ => absurd ((hoff 23 (by kernel_rfl)).symm.trans h0_) (by decide), fun h0_ _ => absurd ((hoff 25 (by kernel_rfl)).symm.trans h0_) (by decide), fun h0_ _ => absurd ((hoff 27 (by kernel_rfl)).symm.trans h0_) (by decide), fun h0_ => absurd ((hoff 29 (by kernel_rfl)).symm.trans h0_) (by decide), fun _ => hfar _ _ _ (BX.out) (by decide), fun _ h1_ => absurd ((hon 6 (by kernel_rfl)).symm.trans h1_) (by decide), fun _ h1_ => absurd ((hon 11 (by kernel_rfl)).symm.trans h1_) (by decide), fun _ h1_ => absurd ((up_self b 16).symm.trans h1_) (by decide), fun h0_ h1_ => (by obtain ⟨g_, hb_, hg_⟩ := (Q_BK20 h0_ h1_); exact ⟨g_, hb_, hfar _ _ _ (hg_) (by decide)⟩)⟩
            refine steps_cons ?_ ?_
            · rintro b a w' ⟨r6, r11, r16, r21, b5, b10, b15, b20, ha, Q_ALL0, Q_ALL1, Q_ALL2, Q_ALL3, Q_ALL4, Q_ALL5, Q_ALL6, Q_ALL7, Q_ALL8, Q_BX, Q_BK5, Q_BK10, Q_BK15, Q_BK20⟩ hb_ hon hoff
              refine ⟨_, rfl, fun K hK => ?_⟩
              have e87 : a.tmps[87]? = some (.pointer (some ⟨gC, 5, none⟩)) := by rw [ha]; exact (putSel_off rfl).trans rfl
              replace ha := Aside0.mk ha
              have BX := Aside0.mk (Q_BX (hoff 23 (by kernel_rfl)))
              have hc_ : w'.cell? ⟨gC, 5, none⟩ = some (vI) := (blk_cell BX.out 5).trans rfl
              refine value_ (w1 := w') (v := vI) (by rfl) rfl ?_ ?_
              · go_simp
                (try simp only [i64_w])
                try rfl
              refine hK.out _ _ ⟨r6, r11, r16, r21, b5, b10, b15, b20, (by rw [ha.out]; exact putSel_upk 10 hb_ rfl rfl rfl), Q_ALL0, Q_ALL1, Q_ALL2, Q_ALL3, fun h0_ _ => absurd ((hoff 21 (by kernel_rfl)).symm.trans h0_) (by decide), fun h0_ _ => absurd ((hoff 23 (by kernel_rfl)).symm.trans h0_) (by decide), fun h0_ _ => absurd ((hoff 25 (by kernel_rfl)).symm.trans h0_) (by decide), fun h0_ _ => absurd ((hoff 27 (by kernel_rfl)).symm.trans h0_) (by decide), fun h0_ => absurd ((hoff 29 (by kernel_rfl)).symm.trans h0_) (by decide), Q_BX, Q_BK5, Q_BK10, Q_BK15, Q_BK20⟩
            refine steps_cons ?_ ?_
            · rintro b a w' ⟨r6, r11, r16, r21, b5, b10, b15, b20, ha, Q_ALL0, Q_ALL1, Q_ALL2, Q_ALL3, Q_ALL4, Q_ALL5, Q_ALL6, Q_ALL7, Q_ALL8, Q_BX, Q_BK5, Q_BK10, Q_BK15, Q_BK20⟩ hb_ hon hoff
              refine ⟨_, rfl, fun K hK => ?_⟩
              have e89 : a.tmps[89]? = some (.slice A19 n19 c19) := by rw [ha]; exact (putSel_off rfl).trans rfl
              replace ha := Aside0.mk ha
              have BX := Aside0.mk (Q_BX (hoff 23 (by kernel_rfl)))
              refine value_ (w1 := ?_) (v := ?_) (by rfl) rfl ?_ ?_
              rotate_left 2
              · go_simp
                constructor
                · rfl
                · rfl
              refine hK.out _ _ ⟨r6, r11, r16, r21, b5, b10, b15, .slice (some ⟨w'.heap.size, 0, none⟩) 1 1, (by rw [ha.out]; exact putSel_upk 11 hb_ rfl rfl rfl), fun h0_ => All.alloc ((Q_ALL0 h0_)) _, fun h0_ h1_ => All.alloc ((Q_ALL1 h0_ h1_)) _, fun h0_ h1_ => All.alloc ((Q_ALL2 h0_ h1_)) _, fun h0_ h1_ => All.alloc ((Q_ALL3 h0_ h1_)) _, fun h0_ _ => absurd ((hoff 21 (by kernel_rfl)).symm.trans h0_) (by decide), fun h0_ _ => absurd ((hoff 23 (by kernel_rfl)).symm.trans h0_) (by decide), fun h0_ _ => absurd ((hoff 25 (by kernel_rfl)).symm.trans h0_) (by decide), fun h0_ _ => absurd ((hoff 27 (by kernel_rfl)).symm.trans h0_) (by decide), fun h0_ => absurd ((hoff 29 (by kernel_rfl)).symm.trans h0_) (by decide), fun _ => blk_alloc (BX.out) _, fun h0_ h1_ => (by obtain ⟨g_, hb_, hg_⟩ := (Q_BK5 h0_ h1_); exact ⟨g_, hb_, blk_alloc (hg_) _⟩), fun h0_ h1_ => (by obtain ⟨g_, hb_, hg_⟩ := (Q_BK10 h0_ h1_); exact ⟨g_, hb_, blk_alloc (hg_) _⟩), fun h0_ h1_ => (by obtain ⟨g_, hb_, hg_⟩ := (Q_BK15 h0_ h1_); exact ⟨g_, hb_, blk_alloc (hg_) _⟩), fun _ _ => ⟨w'.heap.size, rfl, heap_alloc_new w' _⟩⟩
            refine steps_cons ?_ ?_
            · rintro b a w' ⟨r6, r11, r16, r21, b5, b10, b15, b20, ha, Q_ALL0, Q_ALL1, Q_ALL2, Q_ALL3, Q_ALL4, Q_ALL5, Q_ALL6, Q_ALL7, Q_ALL8, Q_BX, Q_BK5, Q_BK10, Q_BK15, Q_BK20⟩ hb_ hon hoff
              refine ⟨_, rfl, fun K hK => ?_⟩
              have e88 : a.tmps[88]? = some (vI) := by rw [ha]; exact putSel_on (e := (18, 88, vI)) 10 rfl rfl (hon 18 (by kernel_rfl)) rfl
              have e90 : a.tmps[90]? = some (b20) := by rw [ha]; exact putSel_on (e := (20, 90, b20)) 11 rfl rfl (hon 20 (by kernel_rfl)) rfl
              replace ha := Aside0.mk ha
              have ALL3 := Aside0.mk (Q_ALL3 (hon 16 (by kernel_rfl)) hb_)
              have BX := Aside0.mk (Q_BX (hoff 23 (by kernel_rfl)))
              have BK20 := Aside0.mk (Q_BK20 (hon 20 (by kernel_rfl)) hb_)
              obtain ⟨g_, hq_, hg_⟩ := BK20.out
              refine All.app_I bap ALL3.out (by rfl) (.tmp 88) (.tmp 90) 25 rfl Try.underlying25 bi49 (eval_of e88) g_ ((eval_of e90).trans hq_) hg_ (by simp only [LAs, LCs, LRs, LIs, List.length_map, List.length_range]; have := HL0.out; have := HN.out; omega) ?_
              intro v_ w_ ho hfar
              refine hK.out _ _ ⟨r6, r11, r16, v_, b5, b10, b15, b20, (by rw [ha.out]; exact putSel_upk 12 hb_ rfl rfl rfl), fun h0_ => absurd ((hon 6 (by kernel_rfl)).symm.trans h0_) (by decide), fun _ h1_ => absurd ((hon 11 (by kernel_rfl)).symm.trans h1_) (by decide), fun _ h1_ => absurd ((hon 16 (by kernel_rfl)).symm.trans h1_) (by decide), fun _ h1_ => absurd ((up_self b 21).symm.trans h1_) (by decide), fun _ _ => ho, fun h0_ _ => absurd ((hoff 23 (by kernel_rfl)).symm.trans h0_) (by decide), fun h0_ _ => absurd ((hoff 25 (by kernel_rfl)).symm.trans h0_) (by decide), fun h0_ _ => absurd ((hoff 27 (by kernel_rfl)).symm.trans h0_) (by decide), fun h0_ => absurd ((hoff 29 (by kernel_rfl)).symm.trans h0_) (by decide), fun _ => hfar _ _ _ (BX.out) (by decide), fun _ h1_ => absurd ((hon 6 (by kernel_rfl)).symm.trans h1_) (by decide), fun _ h1_ => absurd ((hon 11 (by kernel_rfl)).symm.trans h1_) (by decide), fun _ h1_ => absurd ((hon 16 (by kernel_rfl)).symm.trans h1_) (by decide), fun _ h1_ => absurd ((up_self b 21).symm.trans h1_) (by decide)⟩
            refine steps_cons ?_ ?_
            · rintro b a w' ⟨r6, r11, r16, r21, b5, b10, b15, b20, ha, Q_ALL0, Q_ALL1, Q_ALL2, Q_ALL3, Q_ALL4, Q_ALL5, Q_ALL6, Q_ALL7, Q_ALL8, Q_BX, Q_BK5, Q_BK10, Q_BK15, Q_BK20⟩ hb_ hon hoff
              refine ⟨_, rfl, fun K hK => ?_⟩
              have e15 : a.tmps[15]? = some (.pointer (some ⟨gC, 0, none⟩)) := by rw [ha]; exact (putSel_off rfl).trans rfl
              replace ha := Aside0.mk ha
              have BX := Aside0.mk (Q_BX (hoff 23 (by kernel_rfl)))
              refine value_ (w1 := w') (v := .pointer (some ⟨gC, 2, none⟩)) (by rfl) rfl ?_ ?_
              · go_simp
                (try simp only [i64_w])
                try rfl
              refine hK.out _ _ ⟨r6, r11, r16, r21, b5, b10, b15, b20, (by rw [ha.out]; exact putSel_upk 13 hb_ rfl rfl rfl), fun h0_ => absurd ((hon 6 (by kernel_rfl)).symm.trans h0_) (by decide), Q_ALL1, Q_ALL2, Q_ALL3, Q_ALL4, fun h0_ _ => absurd ((hoff 23 (by kernel_rfl)).symm.trans h0_) (by decide), fun h0_ _ => absurd ((hoff 25 (by kernel_rfl)).symm.trans h0_) (by decide), fun h0_ _ => absurd ((hoff 27 (by kernel_rfl)).symm.trans h0_) (by decide), fun h0_ => absurd ((hoff 29 (by kernel_rfl)).symm.trans h0_) (by decide), Q_BX, fun _ h1_ => absurd ((hon 6 (by kernel_rfl)).symm.trans h1_) (by decide), Q_BK10, Q_BK15, Q_BK20⟩
            refine steps_cons ?_ ?_
            · rintro b a w' ⟨r6, r11, r16, r21, b5, b10, b15, b20, ha, Q_ALL0, Q_ALL1, Q_ALL2, Q_ALL3, Q_ALL4, Q_ALL5, Q_ALL6, Q_ALL7, Q_ALL8, Q_BX, Q_BK5, Q_BK10, Q_BK15, Q_BK20⟩ hb_ hon hoff
              refine ⟨_, rfl, fun K hK => ?_⟩
              have e92 : a.tmps[92]? = some (.pointer (some ⟨gC, 2, none⟩)) := by rw [ha]; exact putSel_on (e := (22, 92, .pointer (some ⟨gC, 2, none⟩))) 13 rfl rfl (hon 22 (by kernel_rfl)) rfl
              have e76 : a.tmps[76]? = some (r6) := by rw [ha]; exact putSel_on (e := (6, 76, r6)) 3 rfl rfl (hon 6 (by kernel_rfl)) rfl
              replace ha := Aside0.mk ha
              have ALL4 := Aside0.mk (Q_ALL4 (hon 21 (by kernel_rfl)) hb_)
              have BX := Aside0.mk (Q_BX hb_)
              obtain ⟨A_, n_, c_, hr_⟩ := (shapes ALL4.out).2.2.2.2.1
              subst hr_
              have hc_ : w'.cell? ⟨gC, 2, none⟩ = some (vA) := (blk_cell (All.boxC ALL4.out) 2).trans rfl
              have hf_ := blk_frozen (All.boxC ALL4.out) 2
              refine skip_ (w1 := ?_) (by rfl) rfl ?_ ?_
              rotate_left
              · go_simp
                rfl
              refine hK.out _ _ ⟨(.slice A_ n_ c_), r11, r16, r21, b5, b10, b15, b20, (by rw [ha.out]; exact putSel_none (v := undef) rfl), fun h0_ => absurd ((hon 6 (by kernel_rfl)).symm.trans h0_) (by decide), fun _ h1_ => absurd ((hon 11 (by kernel_rfl)).symm.trans h1_) (by decide), fun _ h1_ => absurd ((hon 16 (by kernel_rfl)).symm.trans h1_) (by decide), fun _ h1_ => absurd ((hon 21 (by kernel_rfl)).symm.trans h1_) (by decide), fun _ h1_ => absurd ((up_self b 23).symm.trans h1_) (by decide), fun _ _ => (All.set bap ALL4.out 2 _), fun h0_ _ => absurd ((hoff 25 (by kernel_rfl)).symm.trans h0_) (by decide), fun h0_ _ => absurd ((hoff 27 (by kernel_rfl)).symm.trans h0_) (by decide), fun h0_ => absurd ((hoff 29 (by kernel_rfl)).symm.trans h0_) (by decide), fun h0_ => absurd ((up_self b 23).symm.trans h0_) (by decide), fun _ h1_ => absurd ((hon 6 (by kernel_rfl)).symm.trans h1_) (by decide), fun _ h1_ => absurd ((hon 11 (by kernel_rfl)).symm.trans h1_) (by decide), fun _ h1_ => absurd ((hon 16 (by kernel_rfl)).symm.trans h1_) (by decide), fun _ h1_ => absurd ((hon 21 (by kernel_rfl)).symm.trans h1_) (by decide)⟩
            refine steps_cons ?_ ?_
            · rintro b a w' ⟨r6, r11, r16, r21, b5, b10, b15, b20, ha, Q_ALL0, Q_ALL1, Q_ALL2, Q_ALL3, Q_ALL4, Q_ALL5, Q_ALL6, Q_ALL7, Q_ALL8, Q_BX, Q_BK5, Q_BK10, Q_BK15, Q_BK20⟩ hb_ hon hoff
              refine ⟨_, rfl, fun K hK => ?_⟩
              have e15 : a.tmps[15]? = some (.pointer (some ⟨gC, 0, none⟩)) := by rw [ha]; exact (putSel_off rfl).trans rfl
              replace ha := Aside0.mk ha
              have ALL5 := Aside0.mk (Q_ALL5 (hon 23 (by kernel_rfl)) (hoff 25 (by kernel_rfl)))
              refine value_ (w1 := w') (v := .pointer (some ⟨gC, 3, none⟩)) (by rfl) rfl ?_ ?_
              · go_simp
                (try simp only [i64_w])
                try rfl
              refine hK.out _ _ ⟨r6, r11, r16, r21, b5, b10, b15, b20, (by rw [ha.out]; exact putSel_upk 14 hb_ rfl rfl rfl), fun h0_ => absurd ((hon 6 (by kernel_rfl)).symm.trans h0_) (by decide), fun _ h1_ => absurd ((hon 11 (by kernel_rfl)).symm.trans h1_) (by decide), fun _ h1_ => absurd ((hon 16 (by kernel_rfl)).symm.trans h1_) (by decide), fun _ h1_ => absurd ((hon 21 (by kernel_rfl)).symm.trans h1_) (by decide), fun _ h1_ => absurd ((hon 23 (by kernel_rfl)).symm.trans h1_) (by decide), Q_ALL5, fun h0_ _ => absurd ((hoff 25 (by kernel_rfl)).symm.trans h0_) (by decide), fun h0_ _ => absurd ((hoff 27 (by kernel_rfl)).symm.trans h0_) (by decide), fun h0_ => absurd ((hoff 29 (by kernel_rfl)).symm.trans h0_) (by decide), fun h0_ => absurd ((hon 23 (by kernel_rfl)).symm.trans h0_) (by decide), fun _ h1_ => absurd ((hon 6 (by kernel_rfl)).symm.trans h1_) (by decide), fun _ h1_ => absurd ((hon 11 (by kernel_rfl)).symm.trans h1_) (by decide), fun _ h1_ => absurd ((hon 16 (by kernel_rfl)).symm.trans h1_) (by decide), fun _ h1_ => absurd ((hon 21 (by kernel_rfl)).symm.trans h1_) (by decide)⟩
            refine steps_cons ?_ ?_
            · rintro b a w' ⟨r6, r11, r16, r21, b5, b10, b15, b20, ha, Q_ALL0, Q_ALL1, Q_ALL2, Q_ALL3, Q_ALL4, Q_ALL5, Q_ALL6, Q_ALL7, Q_ALL8, Q_BX, Q_BK5, Q_BK10, Q_BK15, Q_BK20⟩ hb_ hon hoff
              refine ⟨_, rfl, fun K hK => ?_⟩
              have e93 : a.tmps[93]? = some (.pointer (some ⟨gC, 3, none⟩)) := by rw [ha]; exact putSel_on (e := (24, 93, .pointer (some ⟨gC, 3, none⟩))) 14 rfl rfl (hon 24 (by kernel_rfl)) rfl
              have e81 : a.tmps[81]? = some (r11) := by rw [ha]; exact putSel_on (e := (11, 81, r11)) 6 rfl rfl (hon 11 (by kernel_rfl)) rfl
              replace ha := Aside0.mk ha
              have ALL5 := Aside0.mk (Q_ALL5 (hon 23 (by kernel_rfl)) hb_)
              obtain ⟨A_, n_, c_, hr_⟩ := (shapes ALL5.out).2.2.2.2.2.1
              subst hr_
              have hc_ : w'.cell? ⟨gC, 3, none⟩ = some (vC) := (blk_cell (All.boxC ALL5.out) 3).trans rfl
              have hf_ := blk_frozen (All.boxC ALL5.out) 3
              refine skip_ (w1 := ?_) (by rfl) rfl ?_ ?_
              rotate_left
              · go_simp
                rfl
              refine hK.out _ _ ⟨r6, (.slice A_ n_ c_), r16, r21, b5, b10, b15, b20, (by rw [ha.out]; exact putSel_none (v := undef) rfl), fun h0_ => absurd ((hon 6 (by kernel_rfl)).symm.trans h0_) (by decide), fun _ h1_ => absurd ((hon 11 (by kernel_rfl)).symm.trans h1_) (by decide), fun _ h1_ => absurd ((hon 16 (by kernel_rfl)).symm.trans h1_) (by decide), fun _ h1_ => absurd ((hon 21 (by kernel_rfl)).symm.trans h1_) (by decide), fun _ h1_ => absurd ((hon 23 (by kernel_rfl)).symm.trans h1_) (by decide), fun _ h1_ => absurd ((up_self b 25).symm.trans h1_) (by decide), fun _ _ => (All.set bap ALL5.out 3 _), fun h0_ _ => absurd ((hoff 27 (by kernel_rfl)).symm.trans h0_) (by decide), fun h0_ => absurd ((hoff 29 (by kernel_rfl)).symm.trans h0_) (by decide), fun h0_ => absurd ((hon 23 (by kernel_rfl)).symm.trans h0_) (by decide), fun _ h1_ => absurd ((hon 6 (by kernel_rfl)).symm.trans h1_) (by decide), fun _ h1_ => absurd ((hon 11 (by kernel_rfl)).symm.trans h1_) (by decide), fun _ h1_ => absurd ((hon 16 (by kernel_rfl)).symm.trans h1_) (by decide), fun _ h1_ => absurd ((hon 21 (by kernel_rfl)).symm.trans h1_) (by decide)⟩
            refine steps_cons ?_ ?_
            · rintro b a w' ⟨r6, r11, r16, r21, b5, b10, b15, b20, ha, Q_ALL0, Q_ALL1, Q_ALL2, Q_ALL3, Q_ALL4, Q_ALL5, Q_ALL6, Q_ALL7, Q_ALL8, Q_BX, Q_BK5, Q_BK10, Q_BK15, Q_BK20⟩ hb_ hon hoff
              refine ⟨_, rfl, fun K hK => ?_⟩
              have e15 : a.tmps[15]? = some (.pointer (some ⟨gC, 0, none⟩)) := by rw [ha]; exact (putSel_off rfl).trans rfl
              replace ha := Aside0.mk ha
              have ALL6 := Aside0.mk (Q_ALL6 (hon 25 (by kernel_rfl)) (hoff 27 (by kernel_rfl)))
              refine value_ (w1 := w') (v := .pointer (some ⟨gC, 4, none⟩)) (by rfl) rfl ?_ ?_
              · go_simp
                (try simp only [i64_w])
                try rfl
              refine hK.out _ _ ⟨r6, r11, r16, r21, b5, b10, b15, b20, (by rw [ha.out]; exact putSel_upk 15 hb_ rfl rfl rfl), fun h0_ => absurd ((hon 6 (by kernel_rfl)).symm.trans h0_) (by decide), fun _ h1_ => absurd ((hon 11 (by kernel_rfl)).symm.trans h1_) (by decide), fun _ h1_ => absurd ((hon 16 (by kernel_rfl)).symm.trans h1_) (by decide), fun _ h1_ => absurd ((hon 21 (by kernel_rfl)).symm.trans h1_) (by decide), fun _ h1_ => absurd ((hon 23 (by kernel_rfl)).symm.trans h1_) (by decide), fun _ h1_ => absurd ((hon 25 (by kernel_rfl)).symm.trans h1_) (by decide), Q_ALL6, fun h0_ _ => absurd ((hoff 27 (by kernel_rfl)).symm.trans h0_) (by decide), fun h0_ => absurd ((hoff 29 (by kernel_rfl)).symm.trans h0_) (by decide), fun h0_ => absurd ((hon 23 (by kernel_rfl)).symm.trans h0_) (by decide), fun _ h1_ => absurd ((hon 6 (by kernel_rfl)).symm.trans h1_) (by decide), fun _ h1_ => absurd ((hon 11 (by kernel_rfl)).symm.trans h1_) (by decide), fun _ h1_ => absurd ((hon 16 (by kernel_rfl)).symm.trans h1_) (by decide), fun _ h1_ => absurd ((hon 21 (by kernel_rfl)).symm.trans h1_) (by decide)⟩
            refine steps_cons ?_ ?_
            · rintro b a w' ⟨r6, r11, r16, r21, b5, b10, b15, b20, ha, Q_ALL0, Q_ALL1, Q_ALL2, Q_ALL3, Q_ALL4, Q_ALL5, Q_ALL6, Q_ALL7, Q_ALL8, Q_BX, Q_BK5, Q_BK10, Q_BK15, Q_BK20⟩ hb_ hon hoff
              refine ⟨_, rfl, fun K hK => ?_⟩
              have e94 : a.tmps[94]? = some (.pointer (some ⟨gC, 4, none⟩)) := by rw [ha]; exact putSel_on (e := (26, 94, .pointer (some ⟨gC, 4, none⟩))) 15 rfl rfl (hon 26 (by kernel_rfl)) rfl
              have e86 : a.tmps[86]? = some (r16) := by rw [ha]; exact putSel_on (e := (16, 86, r16)) 9 rfl rfl (hon 16 (by kernel_rfl)) rfl
              replace ha := Aside0.mk ha
              have ALL6 := Aside0.mk (Q_ALL6 (hon 25 (by kernel_rfl)) hb_)
              obtain ⟨A_, n_, c_, hr_⟩ := (shapes ALL6.out).2.2.2.2.2.2.1
              subst hr_
              have hc_ : w'.cell? ⟨gC, 4, none⟩ = some (vR) := (blk_cell (All.boxC ALL6.out) 4).trans rfl
              have hf_ := blk_frozen (All.boxC ALL6.out) 4
              refine skip_ (w1 := ?_) (by rfl) rfl ?_ ?_
              rotate_left
              · go_simp
                rfl
              refine hK.out _ _ ⟨r6, r11, (.slice A_ n_ c_), r21, b5, b10, b15, b20, (by rw [ha.out]; exact putSel_none (v := undef) rfl), fun h0_ => absurd ((hon 6 (by kernel_rfl)).symm.trans h0_) (by decide), fun _ h1_ => absurd ((hon 11 (by kernel_rfl)).symm.trans h1_) (by decide), fun _ h1_ => absurd ((hon 16 (by kernel_rfl)).symm.trans h1_) (by decide), fun _ h1_ => absurd ((hon 21 (by kernel_rfl)).symm.trans h1_) (by decide), fun _ h1_ => absurd ((hon 23 (by kernel_rfl)).symm.trans h1_) (by decide), fun _ h1_ => absurd ((hon 25 (by kernel_rfl)).symm.trans h1_) (by decide), fun _ h1_ => absurd ((up_self b 27).symm.trans h1_) (by decide), fun _ _ => (All.set bap ALL6.out 4 _), fun h0_ => absurd ((hoff 29 (by kernel_rfl)).symm.trans h0_) (by decide), fun h0_ => absurd ((hon 23 (by kernel_rfl)).symm.trans h0_) (by decide), fun _ h1_ => absurd ((hon 6 (by kernel_rfl)).symm.trans h1_) (by decide), fun _ h1_ => absurd ((hon 11 (by kernel_rfl)).symm.trans h1_) (by decide), fun _ h1_ => absurd ((hon 16 (by kernel_rfl)).symm.trans h1_) (by decide), fun _ h1_ => absurd ((hon 21 (by kernel_rfl)).symm.trans h1_) (by decide)⟩
            refine steps_cons ?_ ?_
            · rintro b a w' ⟨r6, r11, r16, r21, b5, b10, b15, b20, ha, Q_ALL0, Q_ALL1, Q_ALL2, Q_ALL3, Q_ALL4, Q_ALL5, Q_ALL6, Q_ALL7, Q_ALL8, Q_BX, Q_BK5, Q_BK10, Q_BK15, Q_BK20⟩ hb_ hon hoff
              refine ⟨_, rfl, fun K hK => ?_⟩
              have e15 : a.tmps[15]? = some (.pointer (some ⟨gC, 0, none⟩)) := by rw [ha]; exact (putSel_off rfl).trans rfl
              replace ha := Aside0.mk ha
              have ALL7 := Aside0.mk (Q_ALL7 (hon 27 (by kernel_rfl)) (hoff 29 (by kernel_rfl)))
              refine value_ (w1 := w') (v := .pointer (some ⟨gC, 5, none⟩)) (by rfl) rfl ?_ ?_
              · go_simp
                (try simp only [i64_w])
                try rfl
              refine hK.out _ _ ⟨r6, r11, r16, r21, b5, b10, b15, b20, (by rw [ha.out]; exact putSel_upk 16 hb_ rfl rfl rfl), fun h0_ => absurd ((hon 6 (by kernel_rfl)).symm.trans h0_) (by decide), fun _ h1_ => absurd ((hon 11 (by kernel_rfl)).symm.trans h1_) (by decide), fun _ h1_ => absurd ((hon 16 (by kernel_rfl)).symm.trans h1_) (by decide), fun _ h1_ => absurd ((hon 21 (by kernel_rfl)).symm.trans h1_) (by decide), fun _ h1_ => absurd ((hon 23 (by kernel_rfl)).symm.trans h1_) (by decide), fun _ h1_ => absurd ((hon 25 (by kernel_rfl)).symm.trans h1_) (by decide), fun _ h1_ => absurd ((hon 27 (by kernel_rfl)).symm.trans h1_) (by decide), Q_ALL7, fun h0_ => absurd ((hoff 29 (by kernel_rfl)).symm.trans h0_) (by decide), fun h0_ => absurd ((hon 23 (by kernel_rfl)).symm.trans h0_) (by decide), fun _ h1_ => absurd ((hon 6 (by kernel_rfl)).symm.trans h1_) (by decide), fun _ h1_ => absurd ((hon 11 (by kernel_rfl)).symm.trans h1_) (by decide), fun _ h1_ => absurd ((hon 16 (by kernel_rfl)).symm.trans h1_) (by decide), fun _ h1_ => absurd ((hon 21 (by kernel_rfl)).symm.trans h1_) (by decide)⟩
            refine steps_cons ?_ ?_
            · rintro b a w' ⟨r6, r11, r16, r21, b5, b10, b15, b20, ha, Q_ALL0, Q_ALL1, Q_ALL2, Q_ALL3, Q_ALL4, Q_ALL5, Q_ALL6, Q_ALL7, Q_ALL8, Q_BX, Q_BK5, Q_BK10, Q_BK15, Q_BK20⟩ hb_ hon hoff
              refine ⟨_, rfl, fun K hK => ?_⟩
              have e95 : a.tmps[95]? = some (.pointer (some ⟨gC, 5, none⟩)) := by rw [ha]; exact putSel_on (e := (28, 95, .pointer (some ⟨gC, 5, none⟩))) 16 rfl rfl (hon 28 (by kernel_rfl)) rfl
              have e91 : a.tmps[91]? = some (r21) := by rw [ha]; exact putSel_on (e := (21, 91, r21)) 12 rfl rfl (hon 21 (by kernel_rfl)) rfl
              replace ha := Aside0.mk ha
              have ALL7 := Aside0.mk (Q_ALL7 (hon 27 (by kernel_rfl)) hb_)
              obtain ⟨A_, n_, c_, hr_⟩ := (shapes ALL7.out).2.2.2.2.2.2.2
              subst hr_
              have hc_ : w'.cell? ⟨gC, 5, none⟩ = some (vI) := (blk_cell (All.boxC ALL7.out) 5).trans rfl
              have hf_ := blk_frozen (All.boxC ALL7.out) 5
              refine skip_ (w1 := ?_) (by rfl) rfl ?_ ?_
              rotate_left
              · go_simp
                rfl
              refine hK.out _ _ ⟨r6, r11, r16, (.slice A_ n_ c_), b5, b10, b15, b20, (by rw [ha.out]; exact putSel_none (v := undef) rfl), fun h0_ => absurd ((hon 6 (by kernel_rfl)).symm.trans h0_) (by decide), fun _ h1_ => absurd ((hon 11 (by kernel_rfl)).symm.trans h1_) (by decide), fun _ h1_ => absurd ((hon 16 (by kernel_rfl)).symm.trans h1_) (by decide), fun _ h1_ => absurd ((hon 21 (by kernel_rfl)).symm.trans h1_) (by decide), fun _ h1_ => absurd ((hon 23 (by kernel_rfl)).symm.trans h1_) (by decide), fun _ h1_ => absurd ((hon 25 (by kernel_rfl)).symm.trans h1_) (by decide), fun _ h1_ => absurd ((hon 27 (by kernel_rfl)).symm.trans h1_) (by decide), fun _ h1_ => absurd ((up_self b 29).symm.trans h1_) (by decide), fun _ => (All.set bap ALL7.out 5 _), fun h0_ => absurd ((hon 23 (by kernel_rfl)).symm.trans h0_) (by decide), fun _ h1_ => absurd ((hon 6 (by kernel_rfl)).symm.trans h1_) (by decide), fun _ h1_ => absurd ((hon 11 (by kernel_rfl)).symm.trans h1_) (by decide), fun _ h1_ => absurd ((hon 16 (by kernel_rfl)).symm.trans h1_) (by decide), fun _ h1_ => absurd ((hon 21 (by kernel_rfl)).symm.trans h1_) (by decide)⟩
            exact steps_nil
          · rintro b a w' hall ⟨r6, r11, r16, r21, b5, b10, b15, b20, ha, Q_ALL0, Q_ALL1, Q_ALL2, Q_ALL3, Q_ALL4, Q_ALL5, Q_ALL6, Q_ALL7, Q_ALL8, Q_BX, Q_BK5, Q_BK10, Q_BK15, Q_BK20⟩
            clear ALL0 BX
            have hb1_ := hall 1 (by kernel_rfl)
            have hb4_ := hall 4 (by kernel_rfl)
            have hb5_ := hall 5 (by kernel_rfl)
            have hb6_ := hall 6 (by kernel_rfl)
            have hb8_ := hall 8 (by kernel_rfl)
            have hb10_ := hall 10 (by kernel_rfl)
            have hb11_ := hall 11 (by kernel_rfl)
            have hb13_ := hall 13 (by kernel_rfl)
            have hb15_ := hall 15 (by kernel_rfl)
            have hb16_ := hall 16 (by kernel_rfl)
            have hb18_ := hall 18 (by kernel_rfl)
            have hb20_ := hall 20 (by kernel_rfl)
            have hb21_ := hall 21 (by kernel_rfl)
            have hb22_ := hall 22 (by kernel_rfl)
            have hb23_ := hall 23 (by kernel_rfl)
            have hb24_ := hall 24 (by kernel_rfl)
            have hb25_ := hall 25 (by kernel_rfl)
            have hb26_ := hall 26 (by kernel_rfl)
            have hb27_ := hall 27 (by kernel_rfl)
            have hb28_ := hall 28 (by kernel_rfl)
            have hb29_ := hall 29 (by kernel_rfl)
            subst ha
            simp only [putSel, hb1_, hb4_, hb5_, hb6_, hb8_, hb10_, hb11_, hb13_, hb15_, hb16_, hb18_, hb20_, hb21_, hb22_, hb23_, hb24_, hb25_, hb26_, hb27_, hb28_, hb29_, if_true, Act.put, List.setIfInBounds_toArray, List.set_cons_zero, List.set_cons_succ]
            clear Q_ALL0
            clear Q_ALL1
            clear Q_ALL2
            clear Q_ALL3
            clear Q_ALL4
            clear Q_ALL5
            clear Q_ALL6
            clear Q_ALL7
            have ALL8 := Aside0.mk (Q_ALL8 hb29_)
            clear Q_ALL8
            clear Q_BX
            clear Q_BK5
            clear Q_BK10
            clear Q_BK15
            clear Q_BK20
            clear hall hb1_ hb4_ hb5_ hb6_ hb8_ hb10_ hb11_ hb13_ hb15_ hb16_ hb18_ hb20_ hb21_ hb22_ hb23_ hb24_ hb25_ hb26_ hb27_ hb28_ hb29_
            go_wp2
            go_roundg gk0
            case measure => have := HK0.out; omega
            case rel => exact ⟨s + 1, r6, r11, r16, r21, by simp only [Value.int.injEq, true_and]; rw [bw _ (by omega) (by have := HN.out; have := HL0.out; omega)]; omega, ⟨by have := HK0.out; omega⟩, ⟨by have := HL0.out; omega⟩, ⟨by rw [LAs_succ, LCs_succ, LRs_succ, LIs_succ]; exact ALL8.out⟩⟩
    · have HX := Aside0.mk (show s = n by have := HS.out; omega)
      have c1 : decide ((s : Int) < (n : Int)) = false := decide_eq_false (by omega)
      have c2 : decide (s < n) = false := decide_eq_false hlt
      clear hlt
      obtain rfl := HX.out
      go_wp2_with (first | ((with_reducible refine gate_ (.load 27 (.tmp 15)) rfl ?_); refine load27 rfl 15 rfl (g := gC) rfl (All.boxC HO.out) rfl ?_) | ((with_reducible refine gate_ (.store 27 (.tmp 14) (.tmp 97)) rfl ?_); refine store27 rfl 14 97 rfl (g := gZ) (old := cZ) (cs := cellsC m st vA vC vR vI) rfl rfl (All.boxZ HO.out) rfl rfl (cells_one HO.out) ?_; intro w9 hbx hB hfar))
      refine bodyPost_ret (results_cell_row rfl _ _ gZ 27 (cellsC m st vA vC vR vI) (0, 0) _ rfl hbx Try.underlying27 rfl (by kernel_rfl)) rfl ?_
      exact ⟨vA, vC, vR, vI, rfl, own_out HO.out hfar, hB _ _ (All.blw HO.out) HO.out.2.2.2.1.2.1⟩
end
end Go.Proofs.Ytepkfigcnnfoaaa.P
