/- Texts that this law leans on, several in one; written by programs of these sessions (print, wip/deep, gather.py). -/
import Derived.Test.YtepkfigcnnfoaaaOe3
set_option linter.unusedVariables false
set_option linter.unusedSimpArgs false
set_option linter.unusedSectionVars false
set_option maxHeartbeats 16000000
set_option maxRecDepth 100000
namespace Go.Proofs.Ytepkfigcnnfoaaa.P
open Go.RowKit Go.Proofs.YtepkfigcnnfoaaaW.PrintWords Go.Proofs.YtepkfigcnnfoaaaW.PrintLast Go.Proofs.YtepkfigcnnfoaaaW.PrintMore Go.Proofs.Ytepkfigcnnfoaaa.Deep
section
variable {ops : Array Oper} {rest : List Oper} {o : Oper} {a : Act} {Q : Exit → Act → World → Prop} {W : World}
theorem size47 : (Try.prog.info? 47).map (·.size) = some 2 := by kernel_rfl
theorem store47 (hgd : o.guard = none) (p v : Tmp) (ho : o.op = .store 47 (.tmp p) (.tmp v)) {g : Nat} {old cs : Array Value} (hx : a.eval (.tmp p) = .pointer (some ⟨g, 0, none⟩)) (hy : a.eval (.tmp v) = .agg cs) (hb : W.heap[g]? = some (.cells old 47 (0, 0)))
  (hs : cs.size = 2) (hs0 : old.size = 2) (h1 : cs.all (·.oneCell') = true)
  (h : ∀ w', w'.heap[g]? = some (.cells cs 47 (0, 0)) → (∀ B w0, Below B w0 W → B ≤ g → Below B w0 w') → (∀ k, k ≠ g → w'.heap[k]? = W.heap[k]?) → wpList Try.prog ops Q rest (a.put o.dst undef) w') : wpList Try.prog ops Q (o :: rest) a W := by
 refine wpList_plain hgd fun K hK => wp_store_row 47 _ _ ho g cs hx hy 47 old hb (by rw [size47, hs]) (by omega) h1 ?_
 exact hK _ _ (h _ (setRow_heap _ _ _ _ _ _ hb) (fun B w0 hB hle => hB.trans ⟨rfl, rfl, rfl, by simp, fun k hk => setRow_other _ _ _ _ (by omega)⟩) (fun k hk => setRow_other _ _ _ _ hk))
end
theorem two_one (x y : Int) : (#[.int .i64 x, .int .i64 y] : Array Value).all (·.oneCell') = true := by
 rw [Array.all_eq_true_iff_forall_mem]
 intro z hz
 rw [List.mem_toArray] at hz
 rcases List.mem_cons.1 hz with rfl | hz
 ·rfl
 rw [List.mem_singleton.1 hz]
 rfl
theorem rdc {w w' : World} {p : Addr} {v : Value} (hb : Below w.heap.size w w') (h : w.cell? p = some v) : w'.cell? p = some v := (hb.cell (World.block_lt_of_cell? w _ h)).trans h
theorem blkc {w : World} {g ty : Nat} {cs : Array Value} (h : w.heap[g]? = some (.cells cs ty (0, 0))) (j : Nat) (v : Value) (hv : cs[j]? = some v) : w.cell? ⟨g, j, none⟩ = some v := (bc h j).trans hv
theorem cellC {w w' : World} {gC gZ : Nat} {cC cZ : Array Value} {vA vC vR vI vc vb vi vl : Value} {LA : List Bool} {LC : List (List S47)} {LR : List (List (List Int))} {LI : List (List Int)} {lc : List S47} {lb : List (List Int)} {li ll : List Int} (h : AllB w w' gC gZ cC cZ vA vC vR vI vc vb vi vl LA LC LR LI lc lb li ll) (j : Nat) (v : Value) (hv : cC[j]? = some v) : w'.cell? ⟨gC, j, none⟩ = some v := (bc (All.boxC h) j).trans hv
theorem own_of0 {w w' : World} {gC gZ : Nat} {cC cZ : Array Value} {vA vC vR vI vc vb vi vl : Value} {LA : List Bool} {LC : List (List S47)} {LR : List (List (List Int))} {LI : List (List Int)} {lc : List S47} {lb : List (List Int)} {li ll : List Int} (h : AllB w w' gC gZ cC cZ vA vC vR vI vc vb vi vl LA LC LR LI lc lb li ll) : OwnC w' w.heap.size vA vC vR vI LA LC LR LI := by
 obtain ⟨_, _, _, _, f, h0, h1, h2, h3, _⟩ := h
 exact ⟨f, h0, h1, h2, h3⟩
theorem reads_nil0 (w : World) : Reads w nilV nilV nilV nilV [] [] [] [] := ⟨⟨none, 0, rfl, Nat.le_refl _, Kd.C_nil _ _⟩, ⟨none, 0, rfl, Nat.le_refl _, Kd.C_nil _ _⟩, ⟨none, 0, rfl, Nat.le_refl _, Kd.C_nil _ _⟩, ⟨none, 0, rfl, Nat.le_refl _, Kd.C_nil _ _⟩⟩
structure Sh (mn : Nat) (l2 : List Bool) (l3 : List (List S47)) (l4 : List (List (List Int))) (l5 : List (List Int)) : Prop where
 a : mn ≤ 80
 b : l2.length ≤ 40
 c : l3.length = l2.length
 c1 : ∀ x ∈ l3, x.length = 2
 r : l4.length = l2.length
 r1 : ∀ x ∈ l4, x.length = 2 ∧ ∀ y ∈ x, y.length = mn + 1
 i : l5.length = l2.length
 i1 : ∀ x ∈ l5, x.length = 2
theorem getI {α : Type} (l : List α) (d : α) (i : Int) (h0 : 0 ≤ i) (h1 : i < (l.length : Int)) : l.getD i.toNat d ∈ l := by
 rw [List.getD_eq_getElem?_getD, List.getElem?_eq_getElem (by omega)]
 exact List.getElem_mem _
section
variable {mn : Nat} {l2 : List Bool} {l3 : List (List S47)} {l4 : List (List (List Int))} {l5 : List (List Int)} (h : Sh mn l2 l3 l4 l5)
include h
theorem Sh.n : l2.length = l2.length ∧ l3.length = l2.length := ⟨rfl, h.c⟩
theorem Sh.at3 {xs : Int} {s : Nat} (hx : xs = (s : Int)) (hs : s < l2.length) : (Zd l3 xs).length = 2 := h.c1 _ (getI l3 _ xs (by omega) (by have := h.c; omega))
theorem Sh.at4 {xs : Int} {s : Nat} (hx : xs = (s : Int)) (hs : s < l2.length) : (rd_L5 l4 xs).length = 2 ∧ ∀ y ∈ rd_L5 l4 xs, y.length = mn + 1 := h.r1 _ (getI l4 _ xs (by omega) (by have := h.r; omega))
theorem Sh.at5 {xs : Int} {s : Nat} (hx : xs = (s : Int)) (hs : s < l2.length) : (rd_L4 l5 xs).length = 2 := h.i1 _ (getI l5 _ xs (by omega) (by have := h.i; omega))
end
theorem gA {w : World} {a : Addr} {n : Nat} {xs : List Bool} (h : Kd.C Kd.bool w (some a) n xs) (i : Int) (h0 : 0 ≤ i) (h1 : i < (n : Int)) : w.cell? (a.add i.toNat) = some (.bool (rdOf false xs i)) := by
 obtain ⟨ad, e, hc⟩ := Kd.at_bool h i h0 h1
 cases e
 exact hc
theorem shA {K : Value → World → Prop} {far : World → Prop} {w w0 : World} {gC gZ : Nat} {cC cZ : Array Value} {vC vR vI vc vb vi vl : Value} {LA : List Bool} {LC : List (List S47)} {LR : List (List (List Int))} {LI : List (List Int)} {lc : List S47} {lb : List (List Int)} {li ll : List Int} (k : ∀ A n c w1, AllB w0 w1 gC gZ cC cZ (.slice A n c) vC vR vI vc vb vi vl LA LC LR LI lc lb li ll → K (.slice A n c) w1) : ∀ v1 w1, AllB w0 w1 gC gZ cC cZ v1 vC vR vI vc vb vi vl LA LC LR LI lc lb li ll → far w1 → K v1 w1 := fun v1 w1 h _ => by
 obtain ⟨A, n, c, rfl⟩ := (shapes h).2.2.2.2.1
 exact k A n c w1 h
theorem shC {K : Value → World → Prop} {far : World → Prop} {w w0 : World} {gC gZ : Nat} {cC cZ : Array Value} {vA vR vI vc vb vi vl : Value} {LA : List Bool} {LC : List (List S47)} {LR : List (List (List Int))} {LI : List (List Int)} {lc : List S47} {lb : List (List Int)} {li ll : List Int} (k : ∀ A n c w1, AllB w0 w1 gC gZ cC cZ vA (.slice A n c) vR vI vc vb vi vl LA LC LR LI lc lb li ll → K (.slice A n c) w1) : ∀ v1 w1, AllB w0 w1 gC gZ cC cZ vA v1 vR vI vc vb vi vl LA LC LR LI lc lb li ll → far w1 → K v1 w1 := fun v1 w1 h _ => by
 obtain ⟨A, n, c, rfl⟩ := (shapes h).2.2.2.2.2.1
 exact k A n c w1 h
theorem shR {K : Value → World → Prop} {far : World → Prop} {w w0 : World} {gC gZ : Nat} {cC cZ : Array Value} {vA vC vI vc vb vi vl : Value} {LA : List Bool} {LC : List (List S47)} {LR : List (List (List Int))} {LI : List (List Int)} {lc : List S47} {lb : List (List Int)} {li ll : List Int} (k : ∀ A n c w1, AllB w0 w1 gC gZ cC cZ vA vC (.slice A n c) vI vc vb vi vl LA LC LR LI lc lb li ll → K (.slice A n c) w1) : ∀ v1 w1, AllB w0 w1 gC gZ cC cZ vA vC v1 vI vc vb vi vl LA LC LR LI lc lb li ll → far w1 → K v1 w1 := fun v1 w1 h _ => by
 obtain ⟨A, n, c, rfl⟩ := (shapes h).2.2.2.2.2.2.1
 exact k A n c w1 h
theorem shI {K : Value → World → Prop} {far : World → Prop} {w w0 : World} {gC gZ : Nat} {cC cZ : Array Value} {vA vC vR vc vb vi vl : Value} {LA : List Bool} {LC : List (List S47)} {LR : List (List (List Int))} {LI : List (List Int)} {lc : List S47} {lb : List (List Int)} {li ll : List Int} (k : ∀ A n c w1, AllB w0 w1 gC gZ cC cZ vA vC vR (.slice A n c) vc vb vi vl LA LC LR LI lc lb li ll → K (.slice A n c) w1) : ∀ v1 w1, AllB w0 w1 gC gZ cC cZ vA vC vR v1 vc vb vi vl LA LC LR LI lc lb li ll → far w1 → K v1 w1 := fun v1 w1 h _ => by
 obtain ⟨A, n, c, rfl⟩ := (shapes h).2.2.2.2.2.2.2
 exact k A n c w1 h
structure Sk (w : World) (mn : Nat) (a3 : Addr) (l3 : List (List S47)) (a4 : Addr) (l4 : List (List (List Int))) (a5 : Addr) (l5 : List (List Int)) (e3 e4 e5 : Int → Addr) (N3 ce3 N4 ce4 N5 ce5 : Int → Nat) (h4 : Int → Int → Addr) (H4 ch4 : Int → Int → Nat) : Prop where
 k3 : ∀ x : Int, 0 ≤ x → x < (l3.length : Int) → N3 x = 2 ∧ w.cell? (a3.add x.toNat) = some (.slice (some (e3 x)) (N3 x) (ce3 x)) ∧ ∀ q : Int, 0 ≤ q → q < 2 → w.cell? ((e3 x).add (q.toNat * 2)) = some (.int .i64 (Zb (Zd l3 x) q).f0) ∧ w.cell? ⟨((e3 x).add (q.toNat * 2)).block, ((e3 x).add (q.toNat * 2)).off + 1, none⟩ = some (.int .i64 (Zb (Zd l3 x) q).f1)
 k4 : ∀ x : Int, 0 ≤ x → x < (l4.length : Int) → N4 x = 2 ∧ w.cell? (a4.add x.toNat) = some (.slice (some (e4 x)) (N4 x) (ce4 x)) ∧ ∀ q : Int, 0 ≤ q → q < 2 → H4 x q = mn + 1 ∧ w.cell? ((e4 x).add q.toNat) = some (.slice (some (h4 x q)) (H4 x q) (ch4 x q)) ∧ ∀ y : Int, 0 ≤ y → y < (mn : Int) + 1 → w.cell? ((h4 x q).add y.toNat) = some (.int .i64 (rd (rd_L4 (rd_L5 l4 x) q) y))
 k5 : ∀ x : Int, 0 ≤ x → x < (l5.length : Int) → N5 x = 2 ∧ w.cell? (a5.add x.toNat) = some (.slice (some (e5 x)) (N5 x) (ce5 x)) ∧ ∀ q : Int, 0 ≤ q → q < 2 → w.cell? ((e5 x).add q.toNat) = some (.int .i64 (rd (rd_L4 l5 x) q))
theorem skolem {β : Type} [Inhabited β] {p : Int → Prop} {r : Int → β → Prop} (h : ∀ x, p x → ∃ y, r x y) : ∃ f : Int → β, ∀ x, p x → r x (f x) := by
 classical
 exact ⟨fun x => if hx : p x then Classical.choose (h x hx) else default, fun x hx => by simp only [dif_pos hx]; exact Classical.choose_spec (h x hx)⟩
instance : Inhabited Addr := ⟨⟨0, 0, none⟩⟩
theorem sk_of {w : World} {mn : Nat} {l2 : List Bool} {a3 : Addr} {l3 : List (List S47)} {a4 : Addr} {l4 : List (List (List Int))} {a5 : Addr} {l5 : List (List Int)} (h : Sh mn l2 l3 l4 l5) (r3 : Kd.C (Kd.slice 47 k47) w (some a3) l3.length l3) (r4 : Kd.C (Kd.slice 49 (Kd.slice 2 (Kd.int .i64))) w (some a4) l4.length l4) (r5 : Kd.C (Kd.slice 2 (Kd.int .i64)) w (some a5) l5.length l5) :
  ∃ (e3 e4 e5 : Int → Addr) (N3 ce3 N4 ce4 N5 ce5 : Int → Nat) (h4 : Int → Int → Addr) (H4 ch4 : Int → Int → Nat), Sk w mn a3 l3 a4 l4 a5 l5 e3 e4 e5 N3 ce3 N4 ce4 N5 ce5 h4 H4 ch4 := by
 have t5 : ∀ (a : Addr) (n : Nat) (xs : List (List Int)) (m : Nat), 0 < m → Kd.C (Kd.slice 2 (Kd.int .i64)) w (some a) n xs → ∀ x : Int, 0 ≤ x ∧ x < (n : Int) ∧ (rd_L4 xs x).length = m → ∃ y : Addr × Nat × Nat, y.2.1 = m ∧ w.cell? (a.add x.toNat) = some (.slice (some y.1) y.2.1 y.2.2) ∧ ∀ q : Int, 0 ≤ q → q < (m : Int) → w.cell? (y.1.add q.toNat) = some (.int .i64 (rd (rd_L4 xs x) q)) := by
  intro a n xs m hm hr x hx
  obtain ⟨ad, A0, c0, e, hc, hc0, hC⟩ := at_L4 hr x hx.1 hx.2.1
  cases e
  obtain ⟨b, e, _⟩ := Kd.at_int hC 0 (by decide) (by rw [hx.2.2]; omega)
  subst e
  refine ⟨(b, _, c0), hx.2.2, hc, fun q hq0 hq1 => ?_⟩
  obtain ⟨b', e, k0⟩ := Kd.at_int hC q hq0 (by rw [hx.2.2]; exact hq1)
  cases e
  exact k0
 obtain ⟨f3, hf3⟩ := skolem (β := Addr × Nat × Nat) (p := fun x => 0 ≤ x ∧ x < (l3.length : Int)) (r := fun x y => y.2.1 = 2 ∧ w.cell? (a3.add x.toNat) = some (.slice (some y.1) y.2.1 y.2.2) ∧ ∀ q : Int, 0 ≤ q → q < 2 → w.cell? (y.1.add (q.toNat * 2)) = some (.int .i64 (Zb (Zd l3 x) q).f0) ∧ w.cell? ⟨(y.1.add (q.toNat * 2)).block, (y.1.add (q.toNat * 2)).off + 1, none⟩ = some (.int .i64 (Zb (Zd l3 x) q).f1)) (fun x hx => by
  have hl : (Zd l3 x).length = 2 := h.c1 _ (getI l3 _ x hx.1 hx.2)
  obtain ⟨ad, A0, c0, e, hc, hc0, hC⟩ := at_L3 r3 x hx.1 hx.2
  cases e
  obtain ⟨b, e, _, _⟩ := at_T47 hC 0 (by decide) (by rw [hl]; decide)
  subst e
  refine ⟨(b, _, c0), hl, hc, fun q hq0 hq1 => ?_⟩
  obtain ⟨b', e, k0, k1⟩ := at_T47 hC q hq0 (by rw [hl]; exact hq1)
  cases e
  exact ⟨k0, k1⟩)
 obtain ⟨f5, hf5⟩ := skolem (β := Addr × Nat × Nat) (t5 a5 _ l5 2 (by decide) r5)
 obtain ⟨f4, hf4⟩ := skolem (β := Addr × Nat × Nat × (Int → Addr × Nat × Nat)) (p := fun x => 0 ≤ x ∧ x < (l4.length : Int)) (r := fun x y => y.2.1 = 2 ∧ w.cell? (a4.add x.toNat) = some (.slice (some y.1) y.2.1 y.2.2.1) ∧ ∀ q : Int, 0 ≤ q → q < 2 → (y.2.2.2 q).2.1 = mn + 1 ∧ w.cell? (y.1.add q.toNat) = some (.slice (some (y.2.2.2 q).1) (y.2.2.2 q).2.1 (y.2.2.2 q).2.2) ∧ ∀ z : Int, 0 ≤ z → z < (mn : Int) + 1 → w.cell? ((y.2.2.2 q).1.add z.toNat) = some (.int .i64 (rd (rd_L4 (rd_L5 l4 x) q) z))) (fun x hx => by
  have hl := h.r1 _ (getI l4 ([] : List (List Int)) x hx.1 hx.2)
  change (rd_L5 l4 x).length = 2 ∧ ∀ y ∈ rd_L5 l4 x, y.length = mn + 1 at hl
  obtain ⟨ad, A0, c0, e, hc, hc0, hC⟩ := at_L5 r4 x hx.1 hx.2
  cases e
  obtain ⟨b, _, _, e, _⟩ := at_L4 hC 0 (by decide) (by rw [hl.1]; decide)
  subst e
  obtain ⟨g, hg⟩ := skolem (β := Addr × Nat × Nat) (t5 b _ (rd_L5 l4 x) (mn + 1) (by omega) hC)
  refine ⟨(b, _, c0, g), hl.1, hc, fun q hq0 hq1 => ?_⟩
  have h9 := hg q ⟨hq0, by rw [hl.1]; exact hq1, hl.2 _ (getI _ _ q hq0 (by rw [hl.1]; exact hq1))⟩
  exact ⟨h9.1, h9.2.1, fun z hz0 hz1 => h9.2.2 z hz0 (by omega)⟩)
 exact ⟨fun x => (f3 x).1, fun x => (f4 x).1, fun x => (f5 x).1, fun x => (f3 x).2.1, fun x => (f3 x).2.2, fun x => (f4 x).2.1, fun x => (f4 x).2.2.1, fun x => (f5 x).2.1, fun x => (f5 x).2.2, fun x q => ((f4 x).2.2.2 q).1, fun x q => ((f4 x).2.2.2 q).2.1, fun x q => ((f4 x).2.2.2 q).2.2,
  fun x h0 h1 => hf3 x ⟨h0, h1⟩, fun x h0 h1 => hf4 x ⟨h0, h1⟩, fun x h0 h1 => hf5 x ⟨h0, h1, h.i1 _ (getI l5 _ x h0 h1)⟩⟩
def pairs.T3 : Bool × List (List Nat × List Nat) := (true, [([], []), ([0], [0]), ([1], [1]), ([2], [2]), ([], []), ([3, 4], [3, 4]), ([], []), ([6], [6]), ([7], [7]), ([8], [8]), ([], []), ([9, 10], [9, 10]), ([], []), ([12], [12]), ([13], [13]), ([14], [14]), ([11, 15], [11, 15]), ([5, 16], [5, 16]), ([], []), ([18, 17, 0, 1, 2, 3, 4, 5, 6, 7, 8, 9, 10, 11, 12, 13, 14, 15, 16, 17, 18], [17, 18])])
def pairs.B3 : List Nat := [0, 1, 3, 7, 0, 31, 0, 64, 192, 448, 0, 1984, 0, 4096, 12288, 28672, 65472, 131071, 0, 524287]
theorem pairs.tab3 : rtab .any (opsOf Try.f80 3) = pairs.T3 := by kernel_rfl
theorem pairs.bits3 : waitsOk pairs.T3.2 pairs.B3 = true := by kernel_rfl
def pairs.T30 : Bool × List (List Nat × List Nat) := (true, [([], []), ([], []), ([1], [1]), ([2], [2]), ([3], [3]), ([], []), ([4, 5], [4, 5]), ([6], [6]), ([], []), ([7, 8], [7, 8]), ([9], [9]), ([], []), ([10, 11], [10, 11]), ([12], [12]), ([], []), ([13, 14], [13, 14]), ([], []), ([16], [16]), ([17], [17]), ([18], [18]), ([], []), ([19, 20], [19, 20]), ([21], [21]), ([], []), ([22, 23], [22, 23]), ([24], [24]), ([], []), ([25, 26], [25, 26]), ([27], [27]), ([15, 28], [15, 28]), ([29], [29]), ([0, 30], [0, 30]), ([31, 31, 0, 1, 2, 3, 4, 5, 6, 7, 8, 9, 10, 11, 12, 13, 14, 15, 16, 17, 18, 19, 20, 21, 22, 23, 24, 25, 26, 27, 28, 29, 30, 31], [0, 31])])
def pairs.B30 : List Nat := [0, 0, 2, 6, 14, 0, 62, 126, 0, 510, 1022, 0, 4094, 8190, 0, 32766, 0, 65536, 196608, 458752, 0, 2031616, 4128768, 0, 16711680, 33488896, 0, 134152192, 268369920, 536870910, 1073741822, 2147483647, 4294967295]
theorem pairs.tab30 : rtab .any (opsOf Try.f80 30) = pairs.T30 := by kernel_rfl
theorem pairs.bits30 : waitsOk pairs.T30.2 pairs.B30 = true := by kernel_rfl
def pairs.T31 : Bool × List (List Nat × List Nat) := (true, [([], []), ([], []), ([], []), ([2], [2]), ([3], [3]), ([4], [4]), ([], []), ([5, 6], [5, 6]), ([7], [7]), ([], []), ([8, 9], [8, 9]), ([10], [10]), ([], []), ([12], [12]), ([13], [13]), ([14], [14]), ([11, 15], [11, 15]), ([16], [16]), ([], []), ([17, 18], [17, 18]), ([], []), ([20], [20]), ([21], [21]), ([22], [22]), ([], []), ([23, 24], [23, 24]), ([25], [25]), ([], []), ([26, 27], [26, 27]), ([28], [28]), ([], []), ([29, 30], [29, 30]), ([31], [31]), ([19, 32], [19, 32]), ([33], [33]), ([1, 34], [1, 34]), ([35], [35]), ([0, 36, 35], [0, 36]), ([37, 37, 0, 1, 2, 3, 4, 5, 6, 7, 8, 9, 10, 11, 12, 13, 14, 15, 16, 17, 18, 19, 20, 21, 22, 23, 24, 25, 26, 27, 28, 29, 30, 31, 32, 33, 34, 35, 36, 37], [0, 37])])
def pairs.B31 : List Nat := [0, 0, 0, 4, 12, 28, 0, 124, 252, 0, 1020, 2044, 0, 4096, 12288, 28672, 65532, 131068, 0, 524284, 0, 1048576, 3145728, 7340032, 0, 32505856, 66060288, 0, 267386880, 535822336, 0, 2146435072, 4293918720, 8589934588, 17179869180, 34359738366, 68719476734, 137438953471, 274877906943]
theorem pairs.tab31 : rtab .any (opsOf Try.f80 31) = pairs.T31 := by kernel_rfl
theorem pairs.bits31 : waitsOk pairs.T31.2 pairs.B31 = true := by kernel_rfl
def pairs.T32 : Bool × List (List Nat × List Nat) := (true, [([], []), ([], []), ([1], [1]), ([2], [2]), ([3], [3]), ([], []), ([4, 5], [4, 5]), ([6], [6]), ([], []), ([7, 8], [7, 8]), ([9], [9]), ([], []), ([10, 11], [10, 11]), ([], []), ([13], [13]), ([14], [14]), ([15], [15]), ([], []), ([16, 17], [16, 17]), ([18], [18]), ([], []), ([19, 20], [19, 20]), ([21], [21]), ([12, 22], [12, 22]), ([23], [23]), ([0, 24], [0, 24]), ([25, 25, 0, 1, 2, 3, 4, 5, 6, 7, 8, 9, 10, 11, 12, 13, 14, 15, 16, 17, 18, 19, 20, 21, 22, 23, 24, 25], [0, 25])])
def pairs.B32 : List Nat := [0, 0, 2, 6, 14, 0, 62, 126, 0, 510, 1022, 0, 4094, 0, 8192, 24576, 57344, 0, 253952, 516096, 0, 2088960, 4186112, 8388606, 16777214, 33554431, 67108863]
theorem pairs.tab32 : rtab .any (opsOf Try.f80 32) = pairs.T32 := by kernel_rfl
theorem pairs.bits32 : waitsOk pairs.T32.2 pairs.B32 = true := by kernel_rfl
theorem pairs_walk (gc gd : Nat) (m st : Int) (a2 : Addr) (c2 : Nat) (l2 : List Bool) (a3 : Addr) (c3 : Nat) (l3 : List (List S47)) (a4 : Addr) (c4 : Nat) (l4 : List (List (List Int))) (a5 : Addr) (c5 : Nat) (l5 : List (List Int)) (m' st' : Int) (b2 : Addr) (d2 : Nat) (p2 : List Bool) (b3 : Addr) (d3 : Nat) (p3 : List (List S47)) (b4 : Addr) (d4 : Nat) (p4 : List (List (List Int))) (b5 : Addr) (d5 : Nat) (p5 : List (List Int)) (mn mm kk : Nat) (e3 e4 e5 : Int → Addr) (N3 ce3 N4 ce4 N5 ce5 : Int → Nat) (h4 : Int → Int → Addr) (H4 ch4 : Int → Int → Nat) (f3 f4 f5 : Int → Addr) (M3 df3 M4 df4 M5 df5 : Int → Nat) (j4 : Int → Int → Addr) (J4 dj4 : Int → Int → Nat) (w : World)
  (hs1 : Sh mn l2 l3 l4 l5) (hs2 : Sh mm p2 p3 p4 p5) (bc : w.heap[gc]? = some (.cells #[.int .i64 m, .int .i64 st, .slice (some a2) l2.length c2, .slice (some a3) l3.length c3, .slice (some a4) l4.length c4, .slice (some a5) l5.length c5] 27 (0, 0))) (bd : w.heap[gd]? = some (.cells #[.int .i64 m', .int .i64 st', .slice (some b2) p2.length d2, .slice (some b3) p3.length d3, .slice (some b4) p4.length d4, .slice (some b5) p5.length d5] 27 (0, 0)))
  (r2 : Kd.C Kd.bool w (some a2) l2.length l2) (q2 : Kd.C Kd.bool w (some b2) p2.length p2)
  (sk1 : Sk w mn a3 l3 a4 l4 a5 l5 e3 e4 e5 N3 ce3 N4 ce4 N5 ce5 h4 H4 ch4) (sk2 : Sk w mm b3 p3 b4 p4 b5 p5 f3 f4 f5 M3 df3 M4 df4 M5 df5 j4 J4 dj4)
  (hm : m = (mn : Int)) (hm' : m' = (mm : Int)) (hkk : kk = mn * mm)
  (acc : Nat → Bool) (call : Nat → Nat → S47) (back : Nat → Nat → Nat → Int) (inner : Nat → Nat → Int)
  (hacc : ∀ s t : Nat, s < l2.length → t < p2.length → acc (s * p2.length + t) = (rdOf false l2 (s : Int) || rdOf false p2 (t : Int)))
  (hcall : ∀ s t q : Nat, s < l2.length → t < p2.length → q < 2 → call (s * p2.length + t) q = ⟨wrap64 (wrap64 ((Zb (Zd l3 (s : Int)) (q : Int)).f0 * (p2.length : Int)) + (Zb (Zd p3 (t : Int)) (q : Int)).f0), wrap64 (wrap64 ((Zb (Zd l3 (s : Int)) (q : Int)).f1 * (mm : Int)) + (Zb (Zd p3 (t : Int)) (q : Int)).f1)⟩)
  (hback : ∀ s t q x y : Nat, s < l2.length → t < p2.length → q < 2 → x < mn → y < mm → back (s * p2.length + t) q (x * mm + y) = wrap64 (wrap64 (rd (rd_L4 (rd_L5 l4 (s : Int)) (q : Int)) (x : Int) * (p2.length : Int)) + rd (rd_L4 (rd_L5 p4 (t : Int)) (q : Int)) (y : Int)))
  (hend : ∀ s t q : Nat, s < l2.length → t < p2.length → q < 2 → back (s * p2.length + t) q (mn * mm) = wrap64 (wrap64 (rd (rd_L4 (rd_L5 l4 (s : Int)) (q : Int)) (mn : Int) * (p2.length : Int)) + rd (rd_L4 (rd_L5 p4 (t : Int)) (q : Int)) (mm : Int)))
  (hinner : ∀ s t q : Nat, s < l2.length → t < p2.length → q < 2 → inner (s * p2.length + t) q = wrap64 (wrap64 (rd (rd_L4 l5 (s : Int)) (q : Int) * (p2.length : Int)) + rd (rd_L4 p5 (t : Int)) (q : Int))) :
  Calls Try.prog 80 #[.pointer (some ⟨gc, 0, none⟩), .pointer (some ⟨gd, 0, none⟩), .bool false] w fun e w' => ∃ vA vC vR vI : Value, e = .returned (.agg (cellsI (wrap64 (m * m')) (wrap64 (wrap64 (st * (p2.length : Int)) + st')) vA vC vR vI)) ∧ OwnC w' w.heap.size vA vC vR vI (LAs acc (l2.length * p2.length)) (LCs call (l2.length * p2.length)) (LRs kk back (l2.length * p2.length)) (LIs inner (l2.length * p2.length)) ∧ Below w.heap.size w w' := by
 have hu27 := Try.underlying27
 have Kc0 := AZ.mk (blkc bc 0 (.int .i64 m) rfl)
 have Kd0 := AZ.mk (blkc bd 0 (.int .i64 m') rfl)
 have Kc1 := AZ.mk (blkc bc 1 (.int .i64 st) rfl)
 have Kd1 := AZ.mk (blkc bd 1 (.int .i64 st') rfl)
 have Kc2 := AZ.mk (blkc bc 2 (.slice (some a2) l2.length c2) rfl)
 have Kd2 := AZ.mk (blkc bd 2 (.slice (some b2) p2.length d2) rfl)
 have Kc3 := AZ.mk (blkc bc 3 (.slice (some a3) l3.length c3) rfl)
 have Kd3 := AZ.mk (blkc bd 3 (.slice (some b3) p3.length d3) rfl)
 have Kc4 := AZ.mk (blkc bc 4 (.slice (some a4) l4.length c4) rfl)
 have Kd4 := AZ.mk (blkc bd 4 (.slice (some b4) p4.length d4) rfl)
 have Kc5 := AZ.mk (blkc bc 5 (.slice (some a5) l5.length c5) rfl)
 have Kd5 := AZ.mk (blkc bd 5 (.slice (some b5) p5.length d5) rfl)
 have S1 := AZ.mk hs1
 have S2 := AZ.mk hs2
 have R2 := AZ.mk r2
 have Q2 := AZ.mk q2
 have K1 := AZ.mk sk1
 have K2 := AZ.mk sk2
 have HM := AZ.mk hm
 have HM' := AZ.mk hm'
 have HKK := AZ.mk hkk
 have HAC := AZ.mk hacc
 have HCA := AZ.mk hcall
 have HBA := AZ.mk hback
 have HEN := AZ.mk hend
 have HIN := AZ.mk hinner
 clear bc bd hs1 hs2 r2 q2 sk1 sk2 hm hm' hkk hacc hcall hback hend hinner
 go_enter Try.func80, Try.ntmps80
 go_wp2_with (first | ((with_reducible refine Zc (N := 6) rfl ?_); refine Zh rfl (N := 6) rfl (cs := cZ) (t := 27) (by go_simp; try rfl) ?_; intro gZ hg W6 hbx hb; have BZ := AZ.mk hbx; have GZ := AZ.mk (show w.heap.size ≤ gZ by rw [hg]; exact Nat.le_refl _); have HW := AZ.mk hb; clear hbx hb hg; have x0 := rdc HW.out Kd0.out; have x2 := rdc HW.out Kd2.out))
 clear x0 x2
 refine start_ (n := 20) (S := fun w' => True) (ds := []) (bz 20 0) (by kernel_rfl) rfl rfl trivial (fun hHeld => ?_)
 refine Yh pairs.tab3 pairs.bits3 (fun HT_ HW_ => ?_)
 have n0_ := AZ.mk (pD HW.out)
 have n1_ := AZ.mk (bd_ BZ.out)
 clear HW BZ
 have HW := n0_
 have BZ := n1_
 clear n0_ n1_
 generalize World.drew _ = wD at HW BZ hHeld ⊢
 refine Ya (i := 0) (N := some 31) (v := ?_) (a' := ?_) (bz 20 1) rfl rfl (Zm HT_.out (by kernel_rfl)) (fun _ _ _ h => h) (Or.inl ⟨by rfl, ?_⟩) ?_ ?_
 rotate_left
 ·intro w'
  go_simp
  with_reducible rfl
 rotate_left
 ·simp only [Act.put, sA, sB, sC, i64_w, i32_w]
  rfl
 refine Ya (i := 1) (N := some 32) (v := ?_) (a' := ?_) (bz 20 3) rfl rfl (Zm HT_.out (by kernel_rfl)) (fun _ _ _ h => h) (Or.inl ⟨by rfl, ?_⟩) ?_ ?_
 rotate_left
 ·intro w'
  go_simp
  with_reducible rfl
 rotate_left
 ·simp only [Act.put, sA, sB, sC, i64_w, i32_w]
  rfl
 refine Ya (i := 2) (N := some 33) (v := ?_) (a' := ?_) (bz 20 7) rfl rfl (Zm HT_.out (by kernel_rfl)) (fun _ _ _ h => h) (Or.inl ⟨by rfl, ?_⟩) ?_ ?_
 rotate_left
 ·intro w'
  go_simp
  with_reducible rfl
 rotate_left
 ·simp only [Act.put, sA, sB, sC, i64_w, i32_w]
  rfl
 refine Ya (i := 4) (N := some 35) (v := ?_) (a' := ?_) (bz 20 23) rfl rfl (Zm HT_.out (by kernel_rfl)) (fun _ _ _ h => h) (Or.inl ⟨by rfl, ?_⟩) ?_ ?_
 rotate_left
 ·intro w'
  go_simp
  with_reducible rfl
 rotate_left
 ·simp only [Act.put, sA, sB, sC, i64_w, i32_w]
  rfl
 refine Ya (i := 6) (N := some 37) (v := ?_) (a' := ?_) (bz 20 87) rfl rfl (Zm HT_.out (by kernel_rfl)) (fun _ _ _ h => h) (Or.inl ⟨by rfl, ?_⟩) ?_ ?_
 rotate_left
 ·intro w'
  go_simp
  with_reducible rfl
 rotate_left
 ·simp only [Act.put, sA, sB, sC, i64_w, i32_w]
  rfl
 refine Ya (i := 7) (N := some 38) (v := ?_) (a' := ?_) (bz 20 215) rfl rfl (Zm HT_.out (by kernel_rfl)) (fun _ _ _ h => h) (Or.inl ⟨by rfl, ?_⟩) ?_ ?_
 rotate_left
 ·intro w'
  go_simp
  with_reducible rfl
 rotate_left
 ·simp only [Act.put, sA, sB, sC, i64_w, i32_w]
  rfl
 refine Ya (i := 8) (N := some 39) (v := ?_) (a' := ?_) (bz 20 471) rfl rfl (Zm HT_.out (by kernel_rfl)) (fun _ _ _ h => h) (Or.inl ⟨by rfl, ?_⟩) ?_ ?_
 rotate_left
 ·intro w'
  go_simp
  with_reducible rfl
 rotate_left
 ·simp only [Act.put, sA, sB, sC, i64_w, i32_w]
  rfl
 refine Ya (i := 10) (N := some 41) (v := ?_) (a' := ?_) (bz 20 1495) rfl rfl (Zm HT_.out (by kernel_rfl)) (fun _ _ _ h => h) (Or.inl ⟨by rfl, ?_⟩) ?_ ?_
 rotate_left
 ·intro w'
  go_simp
  with_reducible rfl
 rotate_left
 ·simp only [Act.put, sA, sB, sC, i64_w, i32_w]
  rfl
 refine Ya (i := 12) (N := some 43) (v := ?_) (a' := ?_) (bz 20 5591) rfl rfl (Zm HT_.out (by kernel_rfl)) (fun _ _ _ h => h) (Or.inl ⟨by rfl, ?_⟩) ?_ ?_
 rotate_left
 ·intro w'
  go_simp
  with_reducible rfl
 rotate_left
 ·simp only [Act.put, sA, sB, sC, i64_w, i32_w]
  rfl
 refine Ya (i := 13) (N := some 44) (v := ?_) (a' := ?_) (bz 20 13783) rfl rfl (Zm HT_.out (by kernel_rfl)) (fun _ _ _ h => h) (Or.inl ⟨by rfl, ?_⟩) ?_ ?_
 rotate_left
 ·intro w'
  go_simp
  with_reducible rfl
 rotate_left
 ·simp only [Act.put, sA, sB, sC, i64_w, i32_w]
  rfl
 refine Ya (i := 14) (N := some 45) (v := ?_) (a' := ?_) (bz 20 30167) rfl rfl (Zm HT_.out (by kernel_rfl)) (fun _ _ _ h => h) (Or.inl ⟨by rfl, ?_⟩) ?_ ?_
 rotate_left
 ·intro w'
  go_simp
  with_reducible rfl
 rotate_left
 ·simp only [Act.put, sA, sB, sC, i64_w, i32_w]
  rfl
 refine inv_at [3, 5, 9, 11, 15, 16, 17, 18, 19] (fun a0_ b a w' => ∃ (gX : Nat) (m18_ : Value), a = Zz a0_ b [(3, 34, .int .i64 m), (5, 36, .int .i64 (wrap64 (m * m'))), (9, 40, .int .i64 st), (11, 42, .int .i64 (wrap64 (st * (p2.length : Int)))), (15, 46, .int .i64 st'), (16, 47, .int .i64 (wrap64 (wrap64 (st * (p2.length : Int)) + st'))), (17, 48, .agg (cellsI (wrap64 (m * m')) (wrap64 (wrap64 (st * (p2.length : Int)) + st')) nilV nilV nilV nilV)), (18, 9, m18_)] ∧ (Below w.heap.size w w') ∧ (w'.heap[gZ]? = some (.cells cZ 27 (0, 0))) ∧ (b 18 = true → w.heap.size ≤ gX ∧ gX ≠ gZ) ∧ (b 18 = true → b 19 = false → w'.heap[gX]? = some (.cells cZ 27 (0, 0))) ∧ (b 19 = true → w'.heap[gX]? = some (.cells (cellsI (wrap64 (m * m')) (wrap64 (wrap64 (st * (p2.length : Int)) + st')) nilV nilV nilV nilV) 27 (0, 0))) ∧ (b 18 = true → (m18_ : Value) = .pointer (some ⟨gX, 0, none⟩))) HT_.out HW_.out (by kernel_rfl) (by kernel_rfl) ?_ ?_ ?_
 ·exact ⟨0, .bool false, by simp only [Zz, Bool.false_eq_true, if_false], HW.out, BZ.out, fun h_ => absurd h_ (by decide), fun h_ => absurd h_ (by decide), fun h_ => absurd h_ (by decide), fun h_ => absurd h_ (by decide)⟩
 ·skip
  clear BZ HW
  refine Za ?_ ?_
  ·rintro b a w' ⟨gX, m18_, ha, Q_HW, Q_BZ, Q_GX, Q_BX0, Q_BX, Q_X18_⟩ hb_ hon hoff
   refine ⟨_, rfl, fun K hK => ?_⟩
   have e33 : a.tmps[33]? = some (.pointer (some ⟨gc, 0, none⟩)) := xH_ ha rfl rfl
   replace ha := AZ.mk ha
   have HW := AZ.mk Q_HW
   have hc_ := rdc HW.out Kc0.out
   refine Zg (w1 := w') (v := .int .i64 m) (by rfl) rfl (by go_simp; (try simp only [i64_w]); try rfl) ?_
   refine hK.out _ _ ⟨gX, m18_, (xI_ ha.out 0 hb_ rfl rfl rfl), Q_HW, Q_BZ, Q_GX, Q_BX0, xA_ (hoff 19 rfl), Q_X18_⟩
  refine Za ?_ ?_
  ·rintro b a w' ⟨gX, m18_, ha, Q_HW, Q_BZ, Q_GX, Q_BX0, Q_BX, Q_X18_⟩ hb_ hon hoff
   refine ⟨_, rfl, fun K hK => ?_⟩
   have e34 := xG_ ha 0 rfl (hon 3 rfl) rfl rfl
   have e35 : a.tmps[35]? = some (.int .i64 m') := xH_ ha rfl rfl
   replace ha := AZ.mk ha
   refine Zg (w1 := w') (v := .int .i64 (wrap64 (m * m'))) (by rfl) rfl (by go_simp; (try simp only [i64_w]); try rfl) ?_
   refine hK.out _ _ ⟨gX, m18_, (xI_ ha.out 1 hb_ rfl rfl rfl), Q_HW, Q_BZ, Q_GX, Q_BX0, xA_ (hoff 19 rfl), Q_X18_⟩
  refine Za ?_ ?_
  ·rintro b a w' ⟨gX, m18_, ha, Q_HW, Q_BZ, Q_GX, Q_BX0, Q_BX, Q_X18_⟩ hb_ hon hoff
   refine ⟨_, rfl, fun K hK => ?_⟩
   have e39 : a.tmps[39]? = some (.pointer (some ⟨gc, 1, none⟩)) := xH_ ha rfl rfl
   replace ha := AZ.mk ha
   have HW := AZ.mk Q_HW
   have hc_ := rdc HW.out Kc1.out
   refine Zg (w1 := w') (v := .int .i64 st) (by rfl) rfl (by go_simp; (try simp only [i64_w]); try rfl) ?_
   refine hK.out _ _ ⟨gX, m18_, (xI_ ha.out 2 hb_ rfl rfl rfl), Q_HW, Q_BZ, Q_GX, Q_BX0, xA_ (hoff 19 rfl), Q_X18_⟩
  refine Za ?_ ?_
  ·rintro b a w' ⟨gX, m18_, ha, Q_HW, Q_BZ, Q_GX, Q_BX0, Q_BX, Q_X18_⟩ hb_ hon hoff
   refine ⟨_, rfl, fun K hK => ?_⟩
   have e40 := xG_ ha 2 rfl (hon 9 rfl) rfl rfl
   have e41 : a.tmps[41]? = some (.int .i64 (p2.length : Int)) := xH_ ha rfl rfl
   replace ha := AZ.mk ha
   refine Zg (w1 := w') (v := .int .i64 (wrap64 (st * (p2.length : Int)))) (by rfl) rfl (by go_simp; (try simp only [i64_w]); try rfl) ?_
   refine hK.out _ _ ⟨gX, m18_, (xI_ ha.out 3 hb_ rfl rfl rfl), Q_HW, Q_BZ, Q_GX, Q_BX0, xA_ (hoff 19 rfl), Q_X18_⟩
  refine Za ?_ ?_
  ·rintro b a w' ⟨gX, m18_, ha, Q_HW, Q_BZ, Q_GX, Q_BX0, Q_BX, Q_X18_⟩ hb_ hon hoff
   refine ⟨_, rfl, fun K hK => ?_⟩
   have e45 : a.tmps[45]? = some (.pointer (some ⟨gd, 1, none⟩)) := xH_ ha rfl rfl
   replace ha := AZ.mk ha
   have HW := AZ.mk Q_HW
   have hc_ := rdc HW.out Kd1.out
   refine Zg (w1 := w') (v := .int .i64 st') (by rfl) rfl (by go_simp; (try simp only [i64_w]); try rfl) ?_
   refine hK.out _ _ ⟨gX, m18_, (xI_ ha.out 4 hb_ rfl rfl rfl), Q_HW, Q_BZ, Q_GX, Q_BX0, xA_ (hoff 19 rfl), Q_X18_⟩
  refine Za ?_ ?_
  ·rintro b a w' ⟨gX, m18_, ha, Q_HW, Q_BZ, Q_GX, Q_BX0, Q_BX, Q_X18_⟩ hb_ hon hoff
   refine ⟨_, rfl, fun K hK => ?_⟩
   have e42 := xG_ ha 3 rfl (hon 11 rfl) rfl rfl
   have e46 := xG_ ha 4 rfl (hon 15 rfl) rfl rfl
   replace ha := AZ.mk ha
   refine Zg (w1 := w') (v := .int .i64 (wrap64 (wrap64 (st * (p2.length : Int)) + st'))) (by rfl) rfl (by go_simp; (try simp only [i64_w]); try rfl) ?_
   refine hK.out _ _ ⟨gX, m18_, (xI_ ha.out 5 hb_ rfl rfl rfl), Q_HW, Q_BZ, Q_GX, Q_BX0, xA_ (hoff 19 rfl), Q_X18_⟩
  refine Za ?_ ?_
  ·rintro b a w' ⟨gX, m18_, ha, Q_HW, Q_BZ, Q_GX, Q_BX0, Q_BX, Q_X18_⟩ hb_ hon hoff
   refine ⟨_, rfl, fun K hK => ?_⟩
   have e36 := xG_ ha 1 rfl (hon 5 rfl) rfl rfl
   have e47 := xG_ ha 5 rfl (hon 16 rfl) rfl rfl
   replace ha := AZ.mk ha
   refine Zg (w1 := w') (v := .agg (cellsI (wrap64 (m * m')) (wrap64 (wrap64 (st * (p2.length : Int)) + st')) nilV nilV nilV nilV)) (by rfl) rfl (by go_simp; (try simp only [i64_w]); try rfl) ?_
   refine hK.out _ _ ⟨gX, m18_, (xI_ ha.out 6 hb_ rfl rfl rfl), Q_HW, Q_BZ, Q_GX, Q_BX0, xA_ (hoff 19 rfl), Q_X18_⟩
  refine Za ?_ ?_
  ·rintro b a w' ⟨gX, m18_, ha, Q_HW, Q_BZ, Q_GX, Q_BX0, Q_BX, Q_X18_⟩ hb_ hon hoff
   refine ⟨_, rfl, fun K hK => ?_⟩
   replace ha := AZ.mk ha
   have HW := AZ.mk Q_HW
   have BZ := AZ.mk Q_BZ
   refine Zg (w1 := ?_) (v := ?_) (by rfl) rfl ?_ ?_
   rotate_left 2
   ·go_simp
    constructor
    ·rfl
    ·rfl
   refine hK.out _ _ ⟨w'.heap.size, (.pointer (some ⟨w'.heap.size, 0, none⟩)), (xI_ ha.out 7 hb_ rfl rfl rfl), pA HW.out _, ba_ BZ.out _, fun _ => ⟨pZ HW.out, nG (Zv BZ.out)⟩, fun _ _ => heap_alloc_new w' _, xA_ (hoff 19 rfl), fun _ => rfl⟩
  refine Za ?_ ?_
  ·rintro b a w' ⟨gX, m18_, ha, Q_HW, Q_BZ, Q_GX, Q_BX0, Q_BX, Q_X18_⟩ hb_ hon hoff
   refine ⟨_, rfl, fun K hK => ?_⟩
   have e9 := xG_ ha 7 rfl (hon 18 rfl) rfl rfl
   rw [Q_X18_ (hon 18 rfl)] at e9
   have e48 := xG_ ha 6 rfl (hon 17 rfl) rfl rfl
   replace ha := AZ.mk ha
   have HW := AZ.mk Q_HW
   have BZ := AZ.mk Q_BZ
   have GX := AZ.mk (Q_GX (hon 18 rfl))
   have BX0 := AZ.mk (Q_BX0 (hon 18 rfl) hb_)
   refine store27_step (by rfl) rfl 9 48 rfl (g := gX) (old := cZ) (cs := cellsI (wrap64 (m * m')) (wrap64 (wrap64 (st * (p2.length : Int)) + st')) nilV nilV nilV nilV) (Zt e9) (Zt e48) BX0.out rfl rfl (cellsI_one _ _ (reads_nil0 w)) ?_
   intro w_ hbx hB hfar
   refine hK.out _ _ ⟨gX, m18_, (xJ_ ha.out rfl), (hB _ _ HW.out GX.out.1), ((hfar _ (Ne.symm GX.out.2)).trans BZ.out), Q_GX, xC_ (Yd b 19), fun _ => hbx, Q_X18_⟩
  exact steps_nil
 ·rintro b a w' hall ⟨gX, m18_, ha, Q_HW, Q_BZ, Q_GX, Q_BX0, Q_BX, Q_X18_⟩
  clear BZ HW
  have hb3_ := hall 3 (by kernel_rfl)
  have hb5_ := hall 5 (by kernel_rfl)
  have hb9_ := hall 9 (by kernel_rfl)
  have hb11_ := hall 11 (by kernel_rfl)
  have hb15_ := hall 15 (by kernel_rfl)
  have hb16_ := hall 16 (by kernel_rfl)
  have hb17_ := hall 17 (by kernel_rfl)
  have hb18_ := hall 18 (by kernel_rfl)
  have hb19_ := hall 19 (by kernel_rfl)
  subst ha
  obtain rfl := Q_X18_ hb18_
  simp only [Zz, hb3_, hb5_, hb9_, hb11_, hb15_, hb16_, hb17_, hb18_, hb19_, if_true, Act.put, sA, sB, sC]
  have HW := AZ.mk Q_HW
  clear Q_HW
  have BZ := AZ.mk Q_BZ
  clear Q_BZ
  have GX := AZ.mk (Q_GX hb18_)
  clear Q_GX
  clear Q_BX0
  have BX := AZ.mk (Q_BX hb19_)
  clear Q_BX
  clear hall hb3_ hb5_ hb9_ hb11_ hb15_ hb16_ hb17_ hb18_ hb19_
  clear hHeld HT_ HW_
  have HO := AZ.mk (show AllB w _ gX gZ (cellsI (wrap64 (m * m')) (wrap64 (wrap64 (st * (p2.length : Int)) + st')) nilV nilV nilV nilV) cZ nilV nilV nilV nilV nilV nilV nilV nilV (LAs acc 0) (LCs call 0) (LRs kk back 0) (LIs inner 0) [] [] [] [] from ⟨HW.out, BX.out, BZ.out, ⟨GX.out.1, GZ.out, GX.out.2⟩, fun _ => 0, Kd.R_nil _ _ _ _ _, Kd.S_nil _ _ _ _ _, Kd.S_nil _ _ _ _ _, Kd.S_nil _ _ _ _ _, Kd.R_nil _ _ _ _ _, Kd.S_nil _ _ _ _ _, Kd.R_nil _ _ _ _ _, Kd.R_nil _ _ _ _ _⟩)
  clear HW BX BZ GX GZ
  go_wp2
  go_loopg [10] (l2.length + 1) (fun kq v10 w' => ∃ (xs : Int) (s : Nat) (vA vC vR vI : Value), v10 = .int .i64 xs ∧ AZ ((xs = (s : Int) ∧ kq + s = l2.length + 1 ∧ s ≤ l2.length) ∧ AllB w w' gX gZ (cellsI (wrap64 (m * m')) (wrap64 (wrap64 (st * (p2.length : Int)) + st')) vA vC vR vI) cZ vA vC vR vI nilV nilV nilV nilV (LAs acc (s * p2.length)) (LCs call (s * p2.length)) (LRs kk back (s * p2.length)) (LIs inner (s * p2.length)) [] [] [] []))
  case atStart => exact ⟨0, 0, nilV, nilV, nilV, nilV, rfl, ⟨⟨rfl, rfl, Nat.zero_le _⟩, by rw [Nat.zero_mul]; exact HO.out⟩⟩
  case round =>
   clear HO
   obtain ⟨xs, s, vA, vC, vR, vI, rfl, HR⟩ := hrel
   have HXS := AZ.mk HR.out.1.1
   have HK0 := AZ.mk HR.out.1.2.1
   have HS0 := AZ.mk HR.out.1.2.2
   have HO := AZ.mk HR.out.2
   clear HR
   have x2 := rdc (All.blw HO.out) Kc2.out
   by_cases hlt : s < l2.length
   ·have HL0 := AZ.mk hlt
    have c1 : decide (xs < (l2.length : Int)) = true := dT (by have := HXS.out; omega)
    clear hlt
    have ps := eq_true (show 0 ≤ xs by have := HXS.out; omega)
    have ps2 := eq_true (show xs < (l2.length : Int) by have := HXS.out; have := HL0.out; have := S1.out.b; omega)
    have ps3 := eq_true (show xs < (l3.length : Int) by have := HXS.out; have := HL0.out; have := S1.out.c; omega)
    have ps4 := eq_true (show xs < (l4.length : Int) by have := HXS.out; have := HL0.out; have := S1.out.r; omega)
    have ps5 := eq_true (show xs < (l5.length : Int) by have := HXS.out; have := HL0.out; have := S1.out.i; omega)
    obtain ⟨gk0, rfl⟩ : ∃ q, gk = q + 1 := ⟨gk - 1, by have := HK0.out; have := HL0.out; omega⟩
    have E3 := AZ.mk (K1.out.k3 xs (of_eq_true ps) (of_eq_true ps3)).2.1
    have E4 := AZ.mk (K1.out.k4 xs (of_eq_true ps) (of_eq_true ps4)).2.1
    have E5 := AZ.mk (K1.out.k5 xs (of_eq_true ps) (of_eq_true ps5)).2.1
    go_wp2
    clear c1 x2
    go_loopg [11] (p2.length + 1) (fun kq v11 w' => ∃ (xt : Int) (t : Nat) (vA vC vR vI : Value), v11 = .int .i64 xt ∧ AZ ((xt = (t : Int) ∧ kq + t = p2.length + 1 ∧ t ≤ p2.length) ∧ AllB w w' gX gZ (cellsI (wrap64 (m * m')) (wrap64 (wrap64 (st * (p2.length : Int)) + st')) vA vC vR vI) cZ vA vC vR vI nilV nilV nilV nilV (LAs acc (s * p2.length + t)) (LCs call (s * p2.length + t)) (LRs kk back (s * p2.length + t)) (LIs inner (s * p2.length + t)) [] [] [] []))
    case atStart => exact ⟨0, 0, vA, vC, vR, vI, rfl, ⟨⟨rfl, rfl, Nat.zero_le _⟩, HO.out⟩⟩
    case round =>
     as_aux_lemma =>
     clear HO vA vC vR vI
     obtain ⟨xt, t, vA, vC, vR, vI, rfl, HR⟩ := hrel
     have HXT := AZ.mk HR.out.1.1
     have HK1 := AZ.mk HR.out.1.2.1
     have HS1 := AZ.mk HR.out.1.2.2
     have HO := AZ.mk HR.out.2
     clear HR
     have x2 := rdc (All.blw HO.out) Kd2.out
     by_cases hlt : t < p2.length
     ·have HL1 := AZ.mk hlt
      have HLI := AZ.mk (show (s * p2.length + t) < 10000 by have := HL0.out; have := HL1.out; have := S1.out.b; have := S2.out.b; have h9 := Nat.mul_le_mul (show s ≤ 40 by omega) (show p2.length ≤ 40 by omega); omega)
      have c1 : decide (xt < (p2.length : Int)) = true := dT (by have := HXT.out; omega)
      clear hlt
      have pt := eq_true (show 0 ≤ xt by have := HXT.out; omega)
      have pt2 := eq_true (show xt < (p2.length : Int) by have := HXT.out; have := HL1.out; have := S2.out.b; omega)
      have pt3 := eq_true (show xt < (p3.length : Int) by have := HXT.out; have := HL1.out; have := S2.out.c; omega)
      have pt4 := eq_true (show xt < (p4.length : Int) by have := HXT.out; have := HL1.out; have := S2.out.r; omega)
      have pt5 := eq_true (show xt < (p5.length : Int) by have := HXT.out; have := HL1.out; have := S2.out.i; omega)
      obtain ⟨gk1, rfl⟩ : ∃ q, gk = q + 1 := ⟨gk - 1, by have := HK1.out; have := HL1.out; omega⟩
      have D3 := AZ.mk (K2.out.k3 xt (of_eq_true pt) (of_eq_true pt3)).2.1
      have D4 := AZ.mk (K2.out.k4 xt (of_eq_true pt) (of_eq_true pt4)).2.1
      have D5 := AZ.mk (K2.out.k5 xt (of_eq_true pt) (of_eq_true pt5)).2.1
      have HAT := AZ.mk (show acc (s * p2.length + t) = (rdOf false l2 xs || rdOf false p2 xt) by rw [HXS.out, HXT.out]; exact HAC.out s t HL0.out HL1.out)
      go_upto_region 10 with (fail)
      go_cut [12] (fun v12 wc => ∃ ac : Bool, v12 = .bool ac ∧ AZ ((True) ∧ AllB w wc gX gZ (cellsI (wrap64 (m * m')) (wrap64 (wrap64 (st * (p2.length : Int)) + st')) vA vC vR vI) cZ vA vC vR vI nilV nilV nilV nilV (LAs acc (s * p2.length + t)) (LCs call (s * p2.length + t)) (LRs kk back (s * p2.length + t)) (LIs inner (s * p2.length + t)) [] [] [] []))
      case first =>
       as_aux_lemma =>
       have y0 := rdc (All.blw HO.out) Kc2.out
       have y1 := rdc (All.blw HO.out) (gA R2.out xs (of_eq_true ps) (of_eq_true ps2))
       have y2 := rdc (All.blw HO.out) Kd2.out
       have y3 := rdc (All.blw HO.out) (gA Q2.out xt (of_eq_true pt) (of_eq_true pt2))
       cases hbs : rdOf false l2 xs
       ·rw [hbs] at y1
        go_wp2
        go_meet
        case rel => exact ⟨_, rfl, ⟨trivial, HO.out⟩⟩
       ·rw [hbs] at y1
        go_wp2
        go_meet
        case rel => exact ⟨_, rfl, ⟨trivial, HO.out⟩⟩
      case rest =>
       as_aux_lemma =>
       clear HO
       obtain ⟨ac, rfl, HR⟩ := hcut
       have HAA := AZ.mk HR.out.1
       have HO := AZ.mk HR.out.2
       clear HR
       clear HAA
       go_upto_region 12 with (fail)
       go_cut [12] (fun v12 wc => ∃ ac : Bool, v12 = .bool ac ∧ AZ ((ac = acc (s * p2.length + t)) ∧ AllB w wc gX gZ (cellsI (wrap64 (m * m')) (wrap64 (wrap64 (st * (p2.length : Int)) + st')) vA vC vR vI) cZ vA vC vR vI nilV nilV nilV nilV (LAs acc (s * p2.length + t)) (LCs call (s * p2.length + t)) (LRs kk back (s * p2.length + t)) (LIs inner (s * p2.length + t)) [] [] [] []))
       case first =>
        as_aux_lemma =>
        have y0 := rdc (All.blw HO.out) Kc2.out
        have y1 := rdc (All.blw HO.out) (gA R2.out xs (of_eq_true ps) (of_eq_true ps2))
        have y2 := rdc (All.blw HO.out) Kd2.out
        have y3 := rdc (All.blw HO.out) (gA Q2.out xt (of_eq_true pt) (of_eq_true pt2))
        cases hbs : rdOf false l2 xs
        ·rw [hbs] at y1
         go_wp2
         go_meet
         case rel => exact ⟨_, rfl, ⟨by rw [HAT.out, hbs]; rfl, HO.out⟩⟩
        ·rw [hbs] at y1
         go_wp2
         go_meet
         case rel => exact ⟨_, rfl, ⟨by rw [HAT.out, hbs]; rfl, HO.out⟩⟩
       case rest =>
        as_aux_lemma =>
        clear HO
        obtain ⟨ac, rfl, HR⟩ := hcut
        have HAA := AZ.mk HR.out.1
        have HO := AZ.mk HR.out.2
        clear HR
        have e_ := HAA.out
        clear HAA x2 c1
        subst e_
        have xC2 := cellC HO.out 2 vA rfl
        go_wp2_with (first | ((with_reducible refine gate_builtin (b := .append) (xs := #[.tmp 102, .tmp 104]) rfl ?_); at_builtin; refine wpList_at ?_; refine All.app_A bap (All.alloc HO.out _) (by rfl) (.tmp 102) (.tmp 104) 22 (acc (s * p2.length + t)) rfl Try.underlying22 bi4 rfl _ rfl (heap_alloc_new _ _) (by simp only [LAs, LCs, LRs, LIs, List.length_append, List.length_cons, List.length_nil, List.length_map, List.length_range]; have := HLI.out; omega) (shA (w := w) ?_); intro A105 n105 c105 w105 ho; clear HO xC2; have HO := AZ.mk ho; clear ho; have xC2 := cellC HO.out 2 vA rfl; have xF2 := bf (All.boxC HO.out) 2) | ((with_reducible refine Yk (t := 22) (p := 106) rfl ?_); refine Yg (t := 22) (p := 106) (v := ?vo105) (w1 := World.setCell w105 ⟨gX, 2, none⟩ (.slice A105 n105 c105)) ?hg ?ho ?hn ?hr ?_; (case ho => rfl); (case hg => rfl); (case hn => rfl); (case hr => first | (go_simp; done) | (go_simp; rfl)); intro W106 hw; have n_ : AZ (AllB w W106 gX gZ (cellsI (wrap64 (m * m')) (wrap64 (wrap64 (st * (p2.length : Int)) + st')) (.slice A105 n105 c105) vC vR vI) cZ (.slice A105 n105 c105) vC vR vI nilV nilV nilV nilV (LAs acc (s * p2.length + t) ++ [acc (s * p2.length + t)]) (LCs call (s * p2.length + t)) (LRs kk back (s * p2.length + t)) (LIs inner (s * p2.length + t)) [] [] [] []) := ⟨by rw [hw]; exact All.set bap HO.out 2 _⟩; clear HO hw xC2 xF2; have HO := n_; clear n_) | ((with_reducible refine Zc (N := 107) rfl ?_); refine All.lit_c bap HO.out ?hg (N := 107) ?hd ?hr ?_; (case hd => rfl); (case hg => rfl); (case hr => first | (go_simp; done) | (go_simp; rfl)); intro v107 w107 ho; clear HO; have HO := AZ.mk ho; clear ho) | ((with_reducible refine Zc (N := 108) rfl ?_); refine All.lit_b bap HO.out ?hg (N := 108) ?hd ?hr ?_; (case hd => rfl); (case hg => rfl); (case hr => first | (go_simp; done) | (go_simp; rfl)); intro v108 w108 ho; clear HO; have HO := AZ.mk ho; clear ho) | ((with_reducible refine Zc (N := 109) rfl ?_); refine All.lit_i bap HO.out ?hg (N := 109) ?hd ?hr ?_; (case hd => rfl); (case hg => rfl); (case hr => first | (go_simp; done) | (go_simp; rfl)); intro v109 w109 ho; clear HO; have HO := AZ.mk ho; clear ho))
        go_loopg [13, 14, 15, 16] 3 (fun kq v13 v14 v15 v16 w' => ∃ (xk : Int) (k : Nat), v16 = .int .i64 xk ∧ AZ ((xk = (k : Int) ∧ kq + k = 3 ∧ k ≤ 2) ∧ AllB w w' gX gZ (cellsI (wrap64 (m * m')) (wrap64 (wrap64 (st * (p2.length : Int)) + st')) (.slice A105 n105 c105) vC vR vI) cZ (.slice A105 n105 c105) vC vR vI v13 v14 v15 nilV (LAs acc (s * p2.length + t) ++ [acc (s * p2.length + t)]) (LCs call (s * p2.length + t)) (LRs kk back (s * p2.length + t)) (LIs inner (s * p2.length + t)) ((List.range k).map (call (s * p2.length + t))) ((List.range k).map (fun q => rowL kk (back (s * p2.length + t) q))) ((List.range k).map (inner (s * p2.length + t))) []))
        case atStart => exact ⟨0, 0, rfl, ⟨⟨rfl, rfl, Nat.zero_le _⟩, HO.out⟩⟩
        case round =>
         as_aux_lemma =>
         clear HO
         obtain ⟨xk, k, rfl, HR⟩ := hrel
         have HXK := AZ.mk HR.out.1.1
         have HK2 := AZ.mk HR.out.1.2.1
         have HS2 := AZ.mk HR.out.1.2.2
         have HO := AZ.mk HR.out.2
         clear HR
         by_cases hlt : k < 2
         ·have HL2 := AZ.mk hlt
          have HLK := HL2
          have c1 : decide (xk < 2) = true := dT (by have := HXK.out; omega)
          clear hlt
          have pk := eq_true (show 0 ≤ xk by have := HXK.out; omega)
          have pk2 : xk < 2 := by have := HXK.out; have := HL2.out; omega
          have PK2 := AZ.mk pk2
          clear pk2
          have pkN3 := eq_true (show xk < (N3 xs : Int) by rw [(K1.out.k3 xs (of_eq_true ps) (of_eq_true ps3)).1]; exact PK2.out)
          have pkN4 := eq_true (show xk < (N4 xs : Int) by rw [(K1.out.k4 xs (of_eq_true ps) (of_eq_true ps4)).1]; exact PK2.out)
          have pkN5 := eq_true (show xk < (N5 xs : Int) by rw [(K1.out.k5 xs (of_eq_true ps) (of_eq_true ps5)).1]; exact PK2.out)
          have pkM3 := eq_true (show xk < (M3 xt : Int) by rw [(K2.out.k3 xt (of_eq_true pt) (of_eq_true pt3)).1]; exact PK2.out)
          have pkM4 := eq_true (show xk < (M4 xt : Int) by rw [(K2.out.k4 xt (of_eq_true pt) (of_eq_true pt4)).1]; exact PK2.out)
          have pkM5 := eq_true (show xk < (M5 xt : Int) by rw [(K2.out.k5 xt (of_eq_true pt) (of_eq_true pt5)).1]; exact PK2.out)
          obtain ⟨gk2, rfl⟩ : ∃ q, gk = q + 1 := ⟨gk - 1, by have := HK2.out; have := HL2.out; omega⟩
          have E30 := AZ.mk ((K1.out.k3 xs (of_eq_true ps) (of_eq_true ps3)).2.2 xk (of_eq_true pk) PK2.out).1
          have E31 := AZ.mk ((K1.out.k3 xs (of_eq_true ps) (of_eq_true ps3)).2.2 xk (of_eq_true pk) PK2.out).2
          have D30 := AZ.mk ((K2.out.k3 xt (of_eq_true pt) (of_eq_true pt3)).2.2 xk (of_eq_true pk) PK2.out).1
          have D31 := AZ.mk ((K2.out.k3 xt (of_eq_true pt) (of_eq_true pt3)).2.2 xk (of_eq_true pk) PK2.out).2
          have E4r := AZ.mk ((K1.out.k4 xs (of_eq_true ps) (of_eq_true ps4)).2.2 xk (of_eq_true pk) PK2.out)
          have E4k := AZ.mk E4r.out.2.1
          have D4r := AZ.mk ((K2.out.k4 xt (of_eq_true pt) (of_eq_true pt4)).2.2 xk (of_eq_true pk) PK2.out)
          have D4k := AZ.mk D4r.out.2.1
          have E5k := AZ.mk ((K1.out.k5 xs (of_eq_true ps) (of_eq_true ps5)).2.2 xk (of_eq_true pk) PK2.out)
          have D5k := AZ.mk ((K2.out.k5 xt (of_eq_true pt) (of_eq_true pt5)).2.2 xk (of_eq_true pk) PK2.out)
          have y0 := rdc (All.blw HO.out) Kc3.out
          have y1 := rdc (All.blw HO.out) E3.out
          have y2 := rdc (All.blw HO.out) E30.out
          have y3 := rdc (All.blw HO.out) E31.out
          go_wp2_with (first | ((with_reducible refine Zc (N := 17) rfl ?_); refine Zh rfl (N := 17) rfl (cs := #[.int .i64 0, .int .i64 0]) (t := 47) (by go_simp; try rfl) ?_; intro g17 hg W17 hbx hb; have BP := AZ.mk hbx; have HBP := AZ.mk hb; have GP := AZ.mk (Nat.le_of_eq hg.symm); clear hbx hb hg) | ((with_reducible refine gate_ (.store 47 (.tmp 17) (.tmp 123)) rfl ?_); refine store47 rfl 17 123 rfl (g := g17) (old := #[.int .i64 0, .int .i64 0]) (cs := #[.int .i64 (Zb (Zd l3 xs) xk).f0, .int .i64 (Zb (Zd l3 xs) xk).f1]) rfl rfl BP.out rfl rfl (two_one _ _) ?_; intro W123 hbx hB hfar; have n_ := AZ.mk (All.below HO.out (hB _ _ HBP.out GP.out)); clear HO BP HBP GP; have HO := n_; have BP := AZ.mk hbx; clear n_ hbx hB hfar; have z0 := rdc (All.blw HO.out) Kd3.out; have z1 := rdc (All.blw HO.out) D3.out; have z2 := rdc (All.blw HO.out) D30.out; have z3 := rdc (All.blw HO.out) D31.out) | ((with_reducible refine Zc (N := 18) rfl ?_); refine Zh rfl (N := 18) rfl (cs := #[.int .i64 0, .int .i64 0]) (t := 47) (by go_simp; try rfl) ?_; intro g18 hg W18 hbx hb; have BQ := AZ.mk hbx; have HBQ := AZ.mk hb; have GQ := AZ.mk (Nat.le_of_eq hg.symm); have GPQ := AZ.mk (show g17 ≠ g18 by rw [hg]; exact nL (Zv BP.out)); clear hbx hb hg) | ((with_reducible refine gate_ (.store 47 (.tmp 18) (.tmp 133)) rfl ?_); refine store47 rfl 18 133 rfl (g := g18) (old := #[.int .i64 0, .int .i64 0]) (cs := #[.int .i64 (Zb (Zd p3 xt) xk).f0, .int .i64 (Zb (Zd p3 xt) xk).f1]) rfl rfl BQ.out rfl rfl (two_one _ _) ?_; intro W133 hbx hB hfar; have n_ := AZ.mk (All.below HO.out (hB _ _ HBQ.out GQ.out)); replace BP := AZ.mk ((hfar _ GPQ.out).trans (bb_ BP.out HBQ.out)); clear HO BQ HBQ GQ; have HO := n_; have BQ := AZ.mk hbx; clear n_ hbx hB hfar; clear GPQ; have u0 := blkc BP.out 0 (.int .i64 (Zb (Zd l3 xs) xk).f0) rfl; have u1 := blkc BP.out 1 (.int .i64 (Zb (Zd l3 xs) xk).f1) rfl; have u2 := blkc BQ.out 0 (.int .i64 (Zb (Zd p3 xt) xk).f0) rfl; have u3 := blkc BQ.out 1 (.int .i64 (Zb (Zd p3 xt) xk).f1) rfl) | ((with_reducible refine gate_builtin (b := .append) (xs := #[.tmp 134, .tmp 150]) rfl ?_); at_builtin; refine All.app_c bap HO.out rfl (.tmp 134) (.tmp 150) 48 ⟨(wrap64 (wrap64 ((Zb (Zd l3 xs) xk).f0 * (p2.length : Int)) + (Zb (Zd p3 xt) xk).f0)), (wrap64 (wrap64 ((Zb (Zd l3 xs) xk).f1 * m') + (Zb (Zd p3 xt) xk).f1))⟩ [.int .i64 (wrap64 (wrap64 ((Zb (Zd l3 xs) xk).f0 * (p2.length : Int)) + (Zb (Zd p3 xt) xk).f0)), .int .i64 (wrap64 (wrap64 ((Zb (Zd l3 xs) xk).f1 * m') + (Zb (Zd p3 xt) xk).f1))] (k47_mkM _ _ _ _) (.agg #[.int .i64 0, .int .i64 0]) 16 rfl (by decide) (by decide) rfl Try.underlying48 bi47 rfl rfl ?hl ?_; (case hl => (try simp only [List.length_map, List.length_range, List.length_nil]); have := HL2.out; omega); intro v151 w151 ho; clear HO BP BQ; have HO := AZ.mk ho; clear ho) | ((with_reducible refine Zc (N := 152) rfl ?_); refine All.lit_l bap HO.out ?hg (N := 152) ?hd ?hr ?_; (case hd => rfl); (case hg => rfl); (case hr => first | (go_simp; done) | (go_simp; rfl)); intro v152 w152 ho; clear HO; have HO := AZ.mk ho; clear ho))
          have n_ := AZ.mk (show AllB w _ gX gZ (cellsI (wrap64 (m * m')) (wrap64 (wrap64 (st * (p2.length : Int)) + st')) (.slice A105 n105 c105) vC vR vI) cZ (.slice A105 n105 c105) vC vR vI v151 u14 u15 v152 (LAs acc (s * p2.length + t) ++ [acc (s * p2.length + t)]) (LCs call (s * p2.length + t)) (LRs kk back (s * p2.length + t)) (LIs inner (s * p2.length + t)) ((List.range (k + 1)).map (call (s * p2.length + t))) ((List.range k).map (fun q => rowL kk (back (s * p2.length + t) q))) ((List.range k).map (inner (s * p2.length + t))) [] by rw [map_succ (call (s * p2.length + t)) k, HCA.out s t k HL0.out HL1.out HL2.out, ← HXS.out, ← HXT.out, ← HXK.out, ← HM'.out]; exact HO.out)
          clear HO
          have HO := n_
          clear n_ c1
          go_loopg [19, 20] (mn + 1) (fun kq v19 v20 w' => ∃ (xx : Int) (x : Nat), v20 = .int .i64 xx ∧ AZ ((xx = (x : Int) ∧ kq + x = mn + 1 ∧ x ≤ mn) ∧ AllB w w' gX gZ (cellsI (wrap64 (m * m')) (wrap64 (wrap64 (st * (p2.length : Int)) + st')) (.slice A105 n105 c105) vC vR vI) cZ (.slice A105 n105 c105) vC vR vI v151 u14 u15 v19 (LAs acc (s * p2.length + t) ++ [acc (s * p2.length + t)]) (LCs call (s * p2.length + t)) (LRs kk back (s * p2.length + t)) (LIs inner (s * p2.length + t)) ((List.range (k + 1)).map (call (s * p2.length + t))) ((List.range k).map (fun q => rowL kk (back (s * p2.length + t) q))) ((List.range k).map (inner (s * p2.length + t))) ((List.range (x * mm)).map (back (s * p2.length + t) k))))
          case atStart => exact ⟨0, 0, rfl, ⟨⟨rfl, rfl, Nat.zero_le _⟩, by rw [Nat.zero_mul]; exact HO.out⟩⟩
          case round =>
           as_aux_lemma =>
           clear HO
           obtain ⟨xx, x, rfl, HR⟩ := hrel
           have HXX := AZ.mk HR.out.1.1
           have HK3 := AZ.mk HR.out.1.2.1
           have HS3 := AZ.mk HR.out.1.2.2
           have HO := AZ.mk HR.out.2
           clear HR
           have y9 := rdc (All.blw HO.out) Kc0.out
           by_cases hlt : x < mn
           ·have HL3 := AZ.mk hlt
            have c1 : decide (xx < m) = true := dT (by have := HXX.out; have := HM.out; omega)
            clear hlt
            have px := eq_true (show 0 ≤ xx by have := HXX.out; omega)
            have pxH := eq_true (show xx < (H4 xs xk : Int) by rw [E4r.out.1]; have := HXX.out; have := HL3.out; omega)
            obtain ⟨gk3, rfl⟩ : ∃ q, gk = q + 1 := ⟨gk - 1, by have := HK3.out; have := HL3.out; omega⟩
            have E4x := AZ.mk (E4r.out.2.2 xx (of_eq_true px) (by have := HXX.out; have := HL3.out; omega))
            go_wp2
            clear c1 y9
            go_loopg [19, 21] (mm + 1) (fun kq v19 v21 w' => ∃ (xy : Int) (y : Nat), v21 = .int .i64 xy ∧ AZ ((xy = (y : Int) ∧ kq + y = mm + 1 ∧ y ≤ mm) ∧ AllB w w' gX gZ (cellsI (wrap64 (m * m')) (wrap64 (wrap64 (st * (p2.length : Int)) + st')) (.slice A105 n105 c105) vC vR vI) cZ (.slice A105 n105 c105) vC vR vI v151 u14 u15 v19 (LAs acc (s * p2.length + t) ++ [acc (s * p2.length + t)]) (LCs call (s * p2.length + t)) (LRs kk back (s * p2.length + t)) (LIs inner (s * p2.length + t)) ((List.range (k + 1)).map (call (s * p2.length + t))) ((List.range k).map (fun q => rowL kk (back (s * p2.length + t) q))) ((List.range k).map (inner (s * p2.length + t))) ((List.range (x * mm + y)).map (back (s * p2.length + t) k))))
            case atStart => exact ⟨0, 0, rfl, ⟨⟨rfl, rfl, Nat.zero_le _⟩, HO.out⟩⟩
            case round =>
             as_aux_lemma =>
             clear HO
             obtain ⟨xy, y, rfl, HR⟩ := hrel
             have HXY := AZ.mk HR.out.1.1
             have HK4 := AZ.mk HR.out.1.2.1
             have HS4 := AZ.mk HR.out.1.2.2
             have HO := AZ.mk HR.out.2
             clear HR
             by_cases hlt : y < mm
             ·have HL4 := AZ.mk hlt
              have c1 : decide (xy < m') = true := dT (by have := HXY.out; have := HM'.out; omega)
              clear hlt
              have py := eq_true (show 0 ≤ xy by have := HXY.out; omega)
              have pyJ := eq_true (show xy < (J4 xt xk : Int) by rw [D4r.out.1]; have := HXY.out; have := HL4.out; omega)
              obtain ⟨gk4, rfl⟩ : ∃ q, gk = q + 1 := ⟨gk - 1, by have := HK4.out; have := HL4.out; omega⟩
              have D4y := AZ.mk (D4r.out.2.2 xy (of_eq_true py) (by have := HXY.out; have := HL4.out; omega))
              have HLEN := AZ.mk (show x * mm + y < 10000 by have := HL3.out; have := HL4.out; have := S1.out.a; have := S2.out.a; have h9 := Nat.mul_le_mul (show x ≤ 80 by omega) (show mm ≤ 80 by omega); omega)
              go_wp2
              clear c1
              refine start_ (n := 33) (S := fun w' => True) (ds := []) (bz 33 0) (by kernel_rfl) rfl rfl trivial (fun hHeld => ?_)
              refine Yh pairs.tab30 pairs.bits30 (fun HT_ HW_ => ?_)
              have ALL0 := AZ.mk (All.drew HO.out)
              have HW := AZ.mk (All.blw ALL0.out)
              clear HO
              generalize World.drew _ = wD at ALL0 HW hHeld ⊢
              refine Ya (i := 0) (N := some 166) (v := ?_) (a' := ?_) (bz 33 1) rfl rfl (Zm HT_.out (by kernel_rfl)) (fun _ _ _ h => h) (Or.inl ⟨by rfl, ?_⟩) ?_ ?_
              rotate_left
              ·intro w'
               go_simp
               with_reducible rfl
              rotate_left
              ·simp only [Act.put, sA, sB, sC, i64_w, i32_w]
               rfl
              refine Ya (i := 1) (N := some 167) (v := ?_) (a' := ?_) (bz 33 3) rfl rfl (Zm HT_.out (by kernel_rfl)) (fun _ _ _ h => h) (Or.inl ⟨by rfl, ?_⟩) ?_ ?_
              rotate_left
              ·intro w'
               go_simp
               with_reducible rfl
              rotate_left
              ·simp only [Act.put, sA, sB, sC, i64_w, i32_w]
               rfl
              refine Ya (i := 2) (N := some 168) (v := ?_) (a' := ?_) (bz 33 7) rfl rfl (Zm HT_.out (by kernel_rfl)) (fun _ _ _ h => h) (Or.inl ⟨by rfl, ?_⟩) ?_ ?_
              rotate_left
              ·intro w'
               go_simp
               with_reducible rfl
              rotate_left
              ·simp only [Act.put, sA, sB, sC, i64_w, i32_w]
               rfl
              refine Ya (i := 3) (N := some 169) (v := ?_) (a' := ?_) (bz 33 15) rfl rfl (Zm HT_.out (by kernel_rfl)) (fun _ _ _ h => h) (Or.inl ⟨by rfl, ?_⟩) ?_ ?_
              rotate_left
              ·intro w'
               go_simp
               with_reducible rfl
              rotate_left
              ·simp only [Act.put, sA, sB, sC, i64_w, i32_w]
               rfl
              refine Ya (i := 5) (N := some 171) (v := ?_) (a' := ?_) (bz 33 47) rfl rfl (Zm HT_.out (by kernel_rfl)) (fun _ _ _ h => h) (Or.inl ⟨by rfl, ?_⟩) ?_ ?_
              rotate_left
              ·intro w'
               go_simp
               with_reducible rfl
              rotate_left
              ·simp only [Act.put, sA, sB, sC, i64_w, i32_w]
               rfl
              refine Ya (i := 8) (N := some 174) (v := ?_) (a' := ?_) (bz 33 303) rfl rfl (Zm HT_.out (by kernel_rfl)) (fun _ _ _ h => h) (Or.inl ⟨by rfl, ?_⟩) ?_ ?_
              rotate_left
              ·intro w'
               go_simp
               with_reducible rfl
              rotate_left
              ·simp only [Act.put, sA, sB, sC, i64_w, i32_w]
               rfl
              refine Ya (i := 11) (N := some 177) (v := ?_) (a' := ?_) (bz 33 2351) rfl rfl (Zm HT_.out (by kernel_rfl)) (fun _ _ _ h => h) (Or.inl ⟨by rfl, ?_⟩) ?_ ?_
              rotate_left
              ·intro w'
               go_simp
               with_reducible rfl
              rotate_left
              ·simp only [Act.put, sA, sB, sC, i64_w, i32_w]
               rfl
              refine Ya (i := 14) (N := some 180) (v := ?_) (a' := ?_) (bz 33 18735) rfl rfl (Zm HT_.out (by kernel_rfl)) (fun _ _ _ h => h) (Or.inl ⟨by rfl, ?_⟩) ?_ ?_
              rotate_left
              ·intro w'
               go_simp
               with_reducible rfl
              rotate_left
              ·simp only [Act.put, sA, sB, sC, i64_w, i32_w]
               rfl
              refine Ya (i := 16) (N := some 182) (v := ?_) (a' := ?_) (bz 33 84271) rfl rfl (Zm HT_.out (by kernel_rfl)) (fun _ _ _ h => h) (Or.inl ⟨by rfl, ?_⟩) ?_ ?_
              rotate_left
              ·intro w'
               go_simp
               with_reducible rfl
              rotate_left
              ·simp only [Act.put, sA, sB, sC, i64_w, i32_w]
               rfl
              refine Ya (i := 17) (N := some 183) (v := ?_) (a' := ?_) (bz 33 215343) rfl rfl (Zm HT_.out (by kernel_rfl)) (fun _ _ _ h => h) (Or.inl ⟨by rfl, ?_⟩) ?_ ?_
              rotate_left
              ·intro w'
               go_simp
               with_reducible rfl
              rotate_left
              ·simp only [Act.put, sA, sB, sC, i64_w, i32_w]
               rfl
              refine Ya (i := 18) (N := some 184) (v := ?_) (a' := ?_) (bz 33 477487) rfl rfl (Zm HT_.out (by kernel_rfl)) (fun _ _ _ h => h) (Or.inl ⟨by rfl, ?_⟩) ?_ ?_
              rotate_left
              ·intro w'
               go_simp
               with_reducible rfl
              rotate_left
              ·simp only [Act.put, sA, sB, sC, i64_w, i32_w]
               rfl
              refine Ya (i := 20) (N := some 186) (v := ?_) (a' := ?_) (bz 33 1526063) rfl rfl (Zm HT_.out (by kernel_rfl)) (fun _ _ _ h => h) (Or.inl ⟨by rfl, ?_⟩) ?_ ?_
              rotate_left
              ·intro w'
               go_simp
               with_reducible rfl
              rotate_left
              ·simp only [Act.put, sA, sB, sC, i64_w, i32_w]
               rfl
              refine Ya (i := 23) (N := some 189) (v := ?_) (a' := ?_) (bz 33 9914671) rfl rfl (Zm HT_.out (by kernel_rfl)) (fun _ _ _ h => h) (Or.inl ⟨by rfl, ?_⟩) ?_ ?_
              rotate_left
              ·intro w'
               go_simp
               with_reducible rfl
              rotate_left
              ·simp only [Act.put, sA, sB, sC, i64_w, i32_w]
               rfl
              refine Ya (i := 26) (N := some 192) (v := ?_) (a' := ?_) (bz 33 77023535) rfl rfl (Zm HT_.out (by kernel_rfl)) (fun _ _ _ h => h) (Or.inl ⟨by rfl, ?_⟩) ?_ ?_
              rotate_left
              ·intro w'
               go_simp
               with_reducible rfl
              rotate_left
              ·simp only [Act.put, sA, sB, sC, i64_w, i32_w]
               rfl
              refine inv_at [4, 6, 7, 9, 10, 12, 13, 15, 19, 21, 22, 24, 25, 27, 28, 29, 30, 31, 32] (fun a0_ b a w' => ∃ (b30 : Value) (r31 : Value) (m32_ : Value), a = Zz a0_ b [(4, 170, .slice (some a4) l4.length c4), (6, 172, .pointer (some (a4.add xs.toNat))), (7, 173, .slice (some (e4 xs)) (N4 xs) (ce4 xs)), (9, 175, .pointer (some ((e4 xs).add xk.toNat))), (10, 176, .slice (some (h4 xs xk)) (H4 xs xk) (ch4 xs xk)), (12, 178, .pointer (some ((h4 xs xk).add xx.toNat))), (13, 179, .int .i64 (rd (rd_L4 (rd_L5 l4 xs) xk) xx)), (15, 181, .int .i64 (wrap64 ((rd (rd_L4 (rd_L5 l4 xs) xk) xx) * (p2.length : Int)))), (19, 185, .slice (some b4) p4.length d4), (21, 187, .pointer (some (b4.add xt.toNat))), (22, 188, .slice (some (f4 xt)) (M4 xt) (df4 xt)), (24, 190, .pointer (some ((f4 xt).add xk.toNat))), (25, 191, .slice (some (j4 xt xk)) (J4 xt xk) (dj4 xt xk)), (27, 193, .pointer (some ((j4 xt xk).add xy.toNat))), (28, 194, .int .i64 (rd (rd_L4 (rd_L5 p4 xt) xk) xy)), (29, 195, .int .i64 (wrap64 (wrap64 ((rd (rd_L4 (rd_L5 l4 xs) xk) xx) * (p2.length : Int)) + (rd (rd_L4 (rd_L5 p4 xt) xk) xy)))), (30, 196, b30), (31, 197, r31), (32, 19, m32_)] ∧ (Below w.heap.size w w') ∧ (b 31 = false → AllB w w' gX gZ (cellsI (wrap64 (m * m')) (wrap64 (wrap64 (st * (p2.length : Int)) + st')) (.slice A105 n105 c105) vC vR vI) cZ (.slice A105 n105 c105) vC vR vI v151 u14 u15 u19 (LAs acc (s * p2.length + t) ++ [acc (s * p2.length + t)]) (LCs call (s * p2.length + t)) (LRs kk back (s * p2.length + t)) (LIs inner (s * p2.length + t)) ((List.range (k + 1)).map (call (s * p2.length + t))) ((List.range k).map (fun q => rowL kk (back (s * p2.length + t) q))) ((List.range k).map (inner (s * p2.length + t))) ((List.range (x * mm + y)).map (back (s * p2.length + t) k))) ∧ (b 31 = true → AllB w w' gX gZ (cellsI (wrap64 (m * m')) (wrap64 (wrap64 (st * (p2.length : Int)) + st')) (.slice A105 n105 c105) vC vR vI) cZ (.slice A105 n105 c105) vC vR vI v151 u14 u15 r31 (LAs acc (s * p2.length + t) ++ [acc (s * p2.length + t)]) (LCs call (s * p2.length + t)) (LRs kk back (s * p2.length + t)) (LIs inner (s * p2.length + t)) ((List.range (k + 1)).map (call (s * p2.length + t))) ((List.range k).map (fun q => rowL kk (back (s * p2.length + t) q))) ((List.range k).map (inner (s * p2.length + t))) (((List.range (x * mm + y)).map (back (s * p2.length + t) k)) ++ [(wrap64 (wrap64 ((rd (rd_L4 (rd_L5 l4 xs) xk) xx) * (p2.length : Int)) + (rd (rd_L4 (rd_L5 p4 xt) xk) xy)))])) ∧ (b 30 = true → b 31 = false → ∃ g_ : Nat, b30 = .slice (some ⟨g_, 0, none⟩) 1 1 ∧ w'.heap[g_]? = some (.cells [.int .i64 (wrap64 (wrap64 ((rd (rd_L4 (rd_L5 l4 xs) xk) xx) * (p2.length : Int)) + (rd (rd_L4 (rd_L5 p4 xt) xk) xy)))].toArray 2 (0, 0))) ∧ (b 32 = true → (m32_ : Value) = r31)) HT_.out HW_.out (by kernel_rfl) (by kernel_rfl) ?_ ?_ ?_
              ·exact ⟨.bool false, .bool false, .bool false, by simp only [Zz, Bool.false_eq_true, if_false], HW.out, fun _ => ALL0.out, fun h_ => absurd h_ (by decide), fun h_ => absurd h_ (by decide), fun h_ => absurd h_ (by decide)⟩
              ·skip
               clear ALL0 HW
               refine Za ?_ ?_
               ·rintro b a w' ⟨b30, r31, m32_, ha, Q_HW, Q_ALL0, Q_ALL1, Q_BK30, Q_X32_⟩ hb_ hon hoff
                refine ⟨_, rfl, fun K hK => ?_⟩
                have e169 : a.tmps[169]? = some (.pointer (some ⟨gc, 4, none⟩)) := xH_ ha rfl rfl
                replace ha := AZ.mk ha
                have HW := AZ.mk Q_HW
                have hc_ := rdc HW.out Kc4.out
                refine Zg (w1 := w') (v := .slice (some a4) l4.length c4) (by rfl) rfl (by go_simp; (try simp only [i64_w]); try rfl) ?_
                refine hK.out _ _ ⟨b30, r31, m32_, (xI_ ha.out 0 hb_ rfl rfl rfl), Q_HW, Q_ALL0, xA_ (hoff 31 rfl), xB_ (hoff 30 rfl), xA_ (hoff 32 rfl)⟩
               refine Za ?_ ?_
               ·rintro b a w' ⟨b30, r31, m32_, ha, Q_HW, Q_ALL0, Q_ALL1, Q_BK30, Q_X32_⟩ hb_ hon hoff
                refine ⟨_, rfl, fun K hK => ?_⟩
                have e170 := xG_ ha 0 rfl (hon 4 rfl) rfl rfl
                have e171 : a.tmps[171]? = some (.int .i64 xs) := xH_ ha rfl rfl
                replace ha := AZ.mk ha
                refine Zg (w1 := w') (v := .pointer (some (a4.add xs.toNat))) (by rfl) rfl (by go_simp; (try simp only [i64_w]); try rfl) ?_
                refine hK.out _ _ ⟨b30, r31, m32_, (xI_ ha.out 1 hb_ rfl rfl rfl), Q_HW, Q_ALL0, xA_ (hoff 31 rfl), xB_ (hoff 30 rfl), xA_ (hoff 32 rfl)⟩
               refine Za ?_ ?_
               ·rintro b a w' ⟨b30, r31, m32_, ha, Q_HW, Q_ALL0, Q_ALL1, Q_BK30, Q_X32_⟩ hb_ hon hoff
                refine ⟨_, rfl, fun K hK => ?_⟩
                have e172 := xG_ ha 1 rfl (hon 6 rfl) rfl rfl
                replace ha := AZ.mk ha
                have HW := AZ.mk Q_HW
                have hc_ := rdc HW.out E4.out
                refine Zg (w1 := w') (v := .slice (some (e4 xs)) (N4 xs) (ce4 xs)) (by rfl) rfl (by go_simp; (try simp only [i64_w]); try rfl) ?_
                refine hK.out _ _ ⟨b30, r31, m32_, (xI_ ha.out 2 hb_ rfl rfl rfl), Q_HW, Q_ALL0, xA_ (hoff 31 rfl), xB_ (hoff 30 rfl), xA_ (hoff 32 rfl)⟩
               refine Za ?_ ?_
               ·rintro b a w' ⟨b30, r31, m32_, ha, Q_HW, Q_ALL0, Q_ALL1, Q_BK30, Q_X32_⟩ hb_ hon hoff
                refine ⟨_, rfl, fun K hK => ?_⟩
                have e173 := xG_ ha 2 rfl (hon 7 rfl) rfl rfl
                have e174 : a.tmps[174]? = some (.int .i64 xk) := xH_ ha rfl rfl
                replace ha := AZ.mk ha
                refine Zg (w1 := w') (v := .pointer (some ((e4 xs).add xk.toNat))) (by rfl) rfl (by go_simp; (try simp only [i64_w]); try rfl) ?_
                refine hK.out _ _ ⟨b30, r31, m32_, (xI_ ha.out 3 hb_ rfl rfl rfl), Q_HW, Q_ALL0, xA_ (hoff 31 rfl), xB_ (hoff 30 rfl), xA_ (hoff 32 rfl)⟩
               refine Za ?_ ?_
               ·rintro b a w' ⟨b30, r31, m32_, ha, Q_HW, Q_ALL0, Q_ALL1, Q_BK30, Q_X32_⟩ hb_ hon hoff
                refine ⟨_, rfl, fun K hK => ?_⟩
                have e175 := xG_ ha 3 rfl (hon 9 rfl) rfl rfl
                replace ha := AZ.mk ha
                have HW := AZ.mk Q_HW
                have hc_ := rdc HW.out E4k.out
                refine Zg (w1 := w') (v := .slice (some (h4 xs xk)) (H4 xs xk) (ch4 xs xk)) (by rfl) rfl (by go_simp; (try simp only [i64_w]); try rfl) ?_
                refine hK.out _ _ ⟨b30, r31, m32_, (xI_ ha.out 4 hb_ rfl rfl rfl), Q_HW, Q_ALL0, xA_ (hoff 31 rfl), xB_ (hoff 30 rfl), xA_ (hoff 32 rfl)⟩
               refine Za ?_ ?_
               ·rintro b a w' ⟨b30, r31, m32_, ha, Q_HW, Q_ALL0, Q_ALL1, Q_BK30, Q_X32_⟩ hb_ hon hoff
                refine ⟨_, rfl, fun K hK => ?_⟩
                have e176 := xG_ ha 4 rfl (hon 10 rfl) rfl rfl
                have e177 : a.tmps[177]? = some (.int .i64 xx) := xH_ ha rfl rfl
                replace ha := AZ.mk ha
                refine Zg (w1 := w') (v := .pointer (some ((h4 xs xk).add xx.toNat))) (by rfl) rfl (by go_simp; (try simp only [i64_w]); try rfl) ?_
                refine hK.out _ _ ⟨b30, r31, m32_, (xI_ ha.out 5 hb_ rfl rfl rfl), Q_HW, Q_ALL0, xA_ (hoff 31 rfl), xB_ (hoff 30 rfl), xA_ (hoff 32 rfl)⟩
               refine Za ?_ ?_
               ·rintro b a w' ⟨b30, r31, m32_, ha, Q_HW, Q_ALL0, Q_ALL1, Q_BK30, Q_X32_⟩ hb_ hon hoff
                refine ⟨_, rfl, fun K hK => ?_⟩
                have e178 := xG_ ha 5 rfl (hon 12 rfl) rfl rfl
                replace ha := AZ.mk ha
                have HW := AZ.mk Q_HW
                have hc_ := rdc HW.out E4x.out
                refine Zg (w1 := w') (v := .int .i64 (rd (rd_L4 (rd_L5 l4 xs) xk) xx)) (by rfl) rfl (by go_simp; (try simp only [i64_w]); try rfl) ?_
                refine hK.out _ _ ⟨b30, r31, m32_, (xI_ ha.out 6 hb_ rfl rfl rfl), Q_HW, Q_ALL0, xA_ (hoff 31 rfl), xB_ (hoff 30 rfl), xA_ (hoff 32 rfl)⟩
               refine Za ?_ ?_
               ·rintro b a w' ⟨b30, r31, m32_, ha, Q_HW, Q_ALL0, Q_ALL1, Q_BK30, Q_X32_⟩ hb_ hon hoff
                refine ⟨_, rfl, fun K hK => ?_⟩
                have e179 := xG_ ha 6 rfl (hon 13 rfl) rfl rfl
                have e180 : a.tmps[180]? = some (.int .i64 (p2.length : Int)) := xH_ ha rfl rfl
                replace ha := AZ.mk ha
                refine Zg (w1 := w') (v := .int .i64 (wrap64 ((rd (rd_L4 (rd_L5 l4 xs) xk) xx) * (p2.length : Int)))) (by rfl) rfl (by go_simp; (try simp only [i64_w]); try rfl) ?_
                refine hK.out _ _ ⟨b30, r31, m32_, (xI_ ha.out 7 hb_ rfl rfl rfl), Q_HW, Q_ALL0, xA_ (hoff 31 rfl), xB_ (hoff 30 rfl), xA_ (hoff 32 rfl)⟩
               refine Za ?_ ?_
               ·rintro b a w' ⟨b30, r31, m32_, ha, Q_HW, Q_ALL0, Q_ALL1, Q_BK30, Q_X32_⟩ hb_ hon hoff
                refine ⟨_, rfl, fun K hK => ?_⟩
                have e184 : a.tmps[184]? = some (.pointer (some ⟨gd, 4, none⟩)) := xH_ ha rfl rfl
                replace ha := AZ.mk ha
                have HW := AZ.mk Q_HW
                have hc_ := rdc HW.out Kd4.out
                refine Zg (w1 := w') (v := .slice (some b4) p4.length d4) (by rfl) rfl (by go_simp; (try simp only [i64_w]); try rfl) ?_
                refine hK.out _ _ ⟨b30, r31, m32_, (xI_ ha.out 8 hb_ rfl rfl rfl), Q_HW, Q_ALL0, xA_ (hoff 31 rfl), xB_ (hoff 30 rfl), xA_ (hoff 32 rfl)⟩
               refine Za ?_ ?_
               ·rintro b a w' ⟨b30, r31, m32_, ha, Q_HW, Q_ALL0, Q_ALL1, Q_BK30, Q_X32_⟩ hb_ hon hoff
                refine ⟨_, rfl, fun K hK => ?_⟩
                have e185 := xG_ ha 8 rfl (hon 19 rfl) rfl rfl
                have e186 : a.tmps[186]? = some (.int .i64 xt) := xH_ ha rfl rfl
                replace ha := AZ.mk ha
                refine Zg (w1 := w') (v := .pointer (some (b4.add xt.toNat))) (by rfl) rfl (by go_simp; (try simp only [i64_w]); try rfl) ?_
                refine hK.out _ _ ⟨b30, r31, m32_, (xI_ ha.out 9 hb_ rfl rfl rfl), Q_HW, Q_ALL0, xA_ (hoff 31 rfl), xB_ (hoff 30 rfl), xA_ (hoff 32 rfl)⟩
               refine Za ?_ ?_
               ·rintro b a w' ⟨b30, r31, m32_, ha, Q_HW, Q_ALL0, Q_ALL1, Q_BK30, Q_X32_⟩ hb_ hon hoff
                refine ⟨_, rfl, fun K hK => ?_⟩
                have e187 := xG_ ha 9 rfl (hon 21 rfl) rfl rfl
                replace ha := AZ.mk ha
                have HW := AZ.mk Q_HW
                have hc_ := rdc HW.out D4.out
                refine Zg (w1 := w') (v := .slice (some (f4 xt)) (M4 xt) (df4 xt)) (by rfl) rfl (by go_simp; (try simp only [i64_w]); try rfl) ?_
                refine hK.out _ _ ⟨b30, r31, m32_, (xI_ ha.out 10 hb_ rfl rfl rfl), Q_HW, Q_ALL0, xA_ (hoff 31 rfl), xB_ (hoff 30 rfl), xA_ (hoff 32 rfl)⟩
               refine Za ?_ ?_
               ·rintro b a w' ⟨b30, r31, m32_, ha, Q_HW, Q_ALL0, Q_ALL1, Q_BK30, Q_X32_⟩ hb_ hon hoff
                refine ⟨_, rfl, fun K hK => ?_⟩
                have e188 := xG_ ha 10 rfl (hon 22 rfl) rfl rfl
                have e189 : a.tmps[189]? = some (.int .i64 xk) := xH_ ha rfl rfl
                replace ha := AZ.mk ha
                refine Zg (w1 := w') (v := .pointer (some ((f4 xt).add xk.toNat))) (by rfl) rfl (by go_simp; (try simp only [i64_w]); try rfl) ?_
                refine hK.out _ _ ⟨b30, r31, m32_, (xI_ ha.out 11 hb_ rfl rfl rfl), Q_HW, Q_ALL0, xA_ (hoff 31 rfl), xB_ (hoff 30 rfl), xA_ (hoff 32 rfl)⟩
               refine Za ?_ ?_
               ·rintro b a w' ⟨b30, r31, m32_, ha, Q_HW, Q_ALL0, Q_ALL1, Q_BK30, Q_X32_⟩ hb_ hon hoff
                refine ⟨_, rfl, fun K hK => ?_⟩
                have e190 := xG_ ha 11 rfl (hon 24 rfl) rfl rfl
                replace ha := AZ.mk ha
                have HW := AZ.mk Q_HW
                have hc_ := rdc HW.out D4k.out
                refine Zg (w1 := w') (v := .slice (some (j4 xt xk)) (J4 xt xk) (dj4 xt xk)) (by rfl) rfl (by go_simp; (try simp only [i64_w]); try rfl) ?_
                refine hK.out _ _ ⟨b30, r31, m32_, (xI_ ha.out 12 hb_ rfl rfl rfl), Q_HW, Q_ALL0, xA_ (hoff 31 rfl), xB_ (hoff 30 rfl), xA_ (hoff 32 rfl)⟩
               refine Za ?_ ?_
               ·rintro b a w' ⟨b30, r31, m32_, ha, Q_HW, Q_ALL0, Q_ALL1, Q_BK30, Q_X32_⟩ hb_ hon hoff
                refine ⟨_, rfl, fun K hK => ?_⟩
                have e191 := xG_ ha 12 rfl (hon 25 rfl) rfl rfl
                have e192 : a.tmps[192]? = some (.int .i64 xy) := xH_ ha rfl rfl
                replace ha := AZ.mk ha
                refine Zg (w1 := w') (v := .pointer (some ((j4 xt xk).add xy.toNat))) (by rfl) rfl (by go_simp; (try simp only [i64_w]); try rfl) ?_
                refine hK.out _ _ ⟨b30, r31, m32_, (xI_ ha.out 13 hb_ rfl rfl rfl), Q_HW, Q_ALL0, xA_ (hoff 31 rfl), xB_ (hoff 30 rfl), xA_ (hoff 32 rfl)⟩
               refine Za ?_ ?_
               ·rintro b a w' ⟨b30, r31, m32_, ha, Q_HW, Q_ALL0, Q_ALL1, Q_BK30, Q_X32_⟩ hb_ hon hoff
                refine ⟨_, rfl, fun K hK => ?_⟩
                have e193 := xG_ ha 13 rfl (hon 27 rfl) rfl rfl
                replace ha := AZ.mk ha
                have HW := AZ.mk Q_HW
                have hc_ := rdc HW.out D4y.out
                refine Zg (w1 := w') (v := .int .i64 (rd (rd_L4 (rd_L5 p4 xt) xk) xy)) (by rfl) rfl (by go_simp; (try simp only [i64_w]); try rfl) ?_
                refine hK.out _ _ ⟨b30, r31, m32_, (xI_ ha.out 14 hb_ rfl rfl rfl), Q_HW, Q_ALL0, xA_ (hoff 31 rfl), xB_ (hoff 30 rfl), xA_ (hoff 32 rfl)⟩
               refine Za ?_ ?_
               ·rintro b a w' ⟨b30, r31, m32_, ha, Q_HW, Q_ALL0, Q_ALL1, Q_BK30, Q_X32_⟩ hb_ hon hoff
                refine ⟨_, rfl, fun K hK => ?_⟩
                have e181 := xG_ ha 7 rfl (hon 15 rfl) rfl rfl
                have e194 := xG_ ha 14 rfl (hon 28 rfl) rfl rfl
                replace ha := AZ.mk ha
                refine Zg (w1 := w') (v := .int .i64 (wrap64 (wrap64 ((rd (rd_L4 (rd_L5 l4 xs) xk) xx) * (p2.length : Int)) + (rd (rd_L4 (rd_L5 p4 xt) xk) xy)))) (by rfl) rfl (by go_simp; (try simp only [i64_w]); try rfl) ?_
                refine hK.out _ _ ⟨b30, r31, m32_, (xI_ ha.out 15 hb_ rfl rfl rfl), Q_HW, Q_ALL0, xA_ (hoff 31 rfl), xB_ (hoff 30 rfl), xA_ (hoff 32 rfl)⟩
               refine Za ?_ ?_
               ·rintro b a w' ⟨b30, r31, m32_, ha, Q_HW, Q_ALL0, Q_ALL1, Q_BK30, Q_X32_⟩ hb_ hon hoff
                refine ⟨_, rfl, fun K hK => ?_⟩
                have e195 := xG_ ha 15 rfl (hon 29 rfl) rfl rfl
                replace ha := AZ.mk ha
                have HW := AZ.mk Q_HW
                have ALL0 := AZ.mk (Q_ALL0 (hoff 31 rfl))
                refine Zg (w1 := ?_) (v := ?_) (by rfl) rfl ?_ ?_
                rotate_left 2
                ·go_simp
                 constructor
                 ·rfl
                 ·rfl
                refine hK.out _ _ ⟨.slice (some ⟨w'.heap.size, 0, none⟩) 1 1, r31, m32_, (xI_ ha.out 16 hb_ rfl rfl rfl), pA HW.out _, fun _ => All.alloc (ALL0.out) _, xA_ (hoff 31 rfl), fun _ _ => ⟨w'.heap.size, rfl, heap_alloc_new w' _⟩, xA_ (hoff 32 rfl)⟩
               refine Za ?_ ?_
               ·rintro b a w' ⟨b30, r31, m32_, ha, Q_HW, Q_ALL0, Q_ALL1, Q_BK30, Q_X32_⟩ hb_ hon hoff
                refine ⟨_, rfl, fun K hK => ?_⟩
                have e166 : a.tmps[166]? = some (u19) := xH_ ha rfl rfl
                have e196 := xG_ ha 16 rfl (hon 30 rfl) rfl rfl
                replace ha := AZ.mk ha
                have ALL0 := AZ.mk (Q_ALL0 hb_)
                have BK30 := AZ.mk (Q_BK30 (hon 30 rfl) hb_)
                obtain ⟨g_, hq_, hg_⟩ := BK30.out
                refine All.app_lS bap ALL0.out (by rfl) (.tmp 166) (.tmp 196) 49 (wrap64 (wrap64 ((rd (rd_L4 (rd_L5 l4 xs) xk) xx) * (p2.length : Int)) + (rd (rd_L4 (rd_L5 p4 xt) xk) xy))) rfl Try.underlying49 bi2 (Zt e166) g_ ((Zt e196).trans hq_) hg_ (by rw [List.length_map, List.length_range]; have := HLEN.out; omega) ?_
                intro v_ w_ ho hfar
                refine hK.out _ _ ⟨b30, v_, m32_, (xI_ ha.out 17 hb_ rfl rfl rfl), (All.blw ho), xD_ (Yd b 31), fun _ => ho, xC_ (Yd b 31), xA_ (hoff 32 rfl)⟩
               refine Za ?_ ?_
               ·rintro b a w' ⟨b30, r31, m32_, ha, Q_HW, Q_ALL0, Q_ALL1, Q_BK30, Q_X32_⟩ hb_ hon hoff
                refine ⟨_, rfl, fun K hK => ?_⟩
                have e197 := xG_ ha 17 rfl (hon 31 rfl) rfl rfl
                replace ha := AZ.mk ha
                refine Zg (w1 := w') (v := r31) (by rfl) rfl (by go_simp; (try simp only [i64_w]); try rfl) ?_
                refine hK.out _ _ ⟨b30, r31, (r31), (xI_ ha.out 18 hb_ rfl rfl rfl), Q_HW, xD_ (hon 31 rfl), Q_ALL1, xC_ (hon 31 rfl), fun _ => rfl⟩
               exact steps_nil
              ·rintro b a w' hall ⟨b30, r31, m32_, ha, Q_HW, Q_ALL0, Q_ALL1, Q_BK30, Q_X32_⟩
               clear ALL0 HW
               have hb4_ := hall 4 (by kernel_rfl)
               have hb6_ := hall 6 (by kernel_rfl)
               have hb7_ := hall 7 (by kernel_rfl)
               have hb9_ := hall 9 (by kernel_rfl)
               have hb10_ := hall 10 (by kernel_rfl)
               have hb12_ := hall 12 (by kernel_rfl)
               have hb13_ := hall 13 (by kernel_rfl)
               have hb15_ := hall 15 (by kernel_rfl)
               have hb19_ := hall 19 (by kernel_rfl)
               have hb21_ := hall 21 (by kernel_rfl)
               have hb22_ := hall 22 (by kernel_rfl)
               have hb24_ := hall 24 (by kernel_rfl)
               have hb25_ := hall 25 (by kernel_rfl)
               have hb27_ := hall 27 (by kernel_rfl)
               have hb28_ := hall 28 (by kernel_rfl)
               have hb29_ := hall 29 (by kernel_rfl)
               have hb30_ := hall 30 (by kernel_rfl)
               have hb31_ := hall 31 (by kernel_rfl)
               have hb32_ := hall 32 (by kernel_rfl)
               subst ha
               obtain rfl := Q_X32_ hb32_
               simp only [Zz, hb4_, hb6_, hb7_, hb9_, hb10_, hb12_, hb13_, hb15_, hb19_, hb21_, hb22_, hb24_, hb25_, hb27_, hb28_, hb29_, hb30_, hb31_, hb32_, if_true, Act.put, sA, sB, sC]
               have HW := AZ.mk Q_HW
               clear Q_HW
               clear Q_ALL0
               have ALL1 := AZ.mk (Q_ALL1 hb31_)
               clear Q_ALL1
               clear Q_BK30
               clear hall hb4_ hb6_ hb7_ hb9_ hb10_ hb12_ hb13_ hb15_ hb19_ hb21_ hb22_ hb24_ hb25_ hb27_ hb28_ hb29_ hb30_ hb31_ hb32_
               clear hHeld HT_ HW_
               have HO := AZ.mk (show AllB w _ gX gZ (cellsI (wrap64 (m * m')) (wrap64 (wrap64 (st * (p2.length : Int)) + st')) (.slice A105 n105 c105) vC vR vI) cZ (.slice A105 n105 c105) vC vR vI v151 u14 u15 m32_ (LAs acc (s * p2.length + t) ++ [acc (s * p2.length + t)]) (LCs call (s * p2.length + t)) (LRs kk back (s * p2.length + t)) (LIs inner (s * p2.length + t)) ((List.range (k + 1)).map (call (s * p2.length + t))) ((List.range k).map (fun q => rowL kk (back (s * p2.length + t) q))) ((List.range k).map (inner (s * p2.length + t))) ((List.range (x * mm + y + 1)).map (back (s * p2.length + t) k)) by rw [map_succ (back (s * p2.length + t) k) (x * mm + y), HBA.out s t k x y HL0.out HL1.out HL2.out HL3.out HL4.out, ← HXS.out, ← HXT.out, ← HXK.out, ← HXX.out, ← HXY.out]; exact ALL1.out)
               clear ALL1 HW
               go_wp2
               go_roundg gk4
               case measure => have := HK4.out; omega
               case rel => exact ⟨_, y + 1, rfl, ⟨⟨by have h8 := HXY.out; have := HS4.out; have := S2.out.a; rw [bw _ (by omega) (by omega)]; omega, by have := HK4.out; omega, HL4.out⟩, HO.out⟩⟩
             ·have HX := AZ.mk (show mm = y by have := HS4.out; omega)
              have c1 : decide (xy < m') = false := dF (by have := HXY.out; have := HM'.out; omega)
              clear hlt
              have e_ := HX.out
              clear HX
              subst e_
              have n_ := AZ.mk (show AllB w _ gX gZ (cellsI (wrap64 (m * m')) (wrap64 (wrap64 (st * (p2.length : Int)) + st')) (.slice A105 n105 c105) vC vR vI) cZ (.slice A105 n105 c105) vC vR vI v151 u14 u15 u19 (LAs acc (s * p2.length + t) ++ [acc (s * p2.length + t)]) (LCs call (s * p2.length + t)) (LRs kk back (s * p2.length + t)) (LIs inner (s * p2.length + t)) ((List.range (k + 1)).map (call (s * p2.length + t))) ((List.range k).map (fun q => rowL kk (back (s * p2.length + t) q))) ((List.range k).map (inner (s * p2.length + t))) ((List.range ((x + 1) * mm)).map (back (s * p2.length + t) k)) by rw [Nat.succ_mul]; exact HO.out)
              clear HO
              have HO := n_
              clear n_
              go_wp2
              go_roundg gk3
              case measure => have := HK3.out; omega
              case rel => exact ⟨_, x + 1, rfl, ⟨⟨by have h8 := HXX.out; have := HS3.out; have := S1.out.a; rw [bw _ (by omega) (by omega)]; omega, by have := HK3.out; omega, HL3.out⟩, HO.out⟩⟩
           ·have HX := AZ.mk (show mn = x by have := HS3.out; omega)
            have c1 : decide (xx < m) = false := dF (by have := HXX.out; have := HM.out; omega)
            clear hlt
            have e_ := HX.out
            clear HX
            subst e_
            have px := eq_true (show 0 ≤ m by have := HM.out; omega)
            have pxH := eq_true (show m < (H4 xs xk : Int) by rw [E4r.out.1]; have := HM.out; omega)
            have py := eq_true (show 0 ≤ m' by have := HM'.out; omega)
            have pyJ := eq_true (show m' < (J4 xt xk : Int) by rw [D4r.out.1]; have := HM'.out; omega)
            have E4m := AZ.mk (E4r.out.2.2 m (of_eq_true px) (by have := HM.out; omega))
            have D4m := AZ.mk (D4r.out.2.2 m' (of_eq_true py) (by have := HM'.out; omega))
            have HLEN := AZ.mk (show mn * mm < 10000 by have := S1.out.a; have := S2.out.a; have h9 := Nat.mul_le_mul (show mn ≤ 80 by omega) (show mm ≤ 80 by omega); omega)
            go_wp2
            clear c1 y9
            refine start_ (n := 39) (S := fun w' => True) (ds := []) (bz 39 0) (by kernel_rfl) rfl rfl trivial (fun hHeld => ?_)
            refine Yh pairs.tab31 pairs.bits31 (fun HT_ HW_ => ?_)
            have ALL0 := AZ.mk (All.drew HO.out)
            have HW := AZ.mk (All.blw ALL0.out)
            clear HO
            generalize World.drew _ = wD at ALL0 HW hHeld ⊢
            refine Ya (i := 0) (N := some 198) (v := ?_) (a' := ?_) (bz 39 1) rfl rfl (Zm HT_.out (by kernel_rfl)) (fun _ _ _ h => h) (Or.inl ⟨by rfl, ?_⟩) ?_ ?_
            rotate_left
            ·intro w'
             go_simp
             with_reducible rfl
            rotate_left
            ·simp only [Act.put, sA, sB, sC, i64_w, i32_w]
             rfl
            refine Ya (i := 1) (N := some 199) (v := ?_) (a' := ?_) (bz 39 3) rfl rfl (Zm HT_.out (by kernel_rfl)) (fun _ _ _ h => h) (Or.inl ⟨by rfl, ?_⟩) ?_ ?_
            rotate_left
            ·intro w'
             go_simp
             with_reducible rfl
            rotate_left
            ·simp only [Act.put, sA, sB, sC, i64_w, i32_w]
             rfl
            refine Ya (i := 2) (N := some 200) (v := ?_) (a' := ?_) (bz 39 7) rfl rfl (Zm HT_.out (by kernel_rfl)) (fun _ _ _ h => h) (Or.inl ⟨by rfl, ?_⟩) ?_ ?_
            rotate_left
            ·intro w'
             go_simp
             with_reducible rfl
            rotate_left
            ·simp only [Act.put, sA, sB, sC, i64_w, i32_w]
             rfl
            refine Ya (i := 3) (N := some 201) (v := ?_) (a' := ?_) (bz 39 15) rfl rfl (Zm HT_.out (by kernel_rfl)) (fun _ _ _ h => h) (Or.inl ⟨by rfl, ?_⟩) ?_ ?_
            rotate_left
            ·intro w'
             go_simp
             with_reducible rfl
            rotate_left
            ·simp only [Act.put, sA, sB, sC, i64_w, i32_w]
             rfl
            refine Ya (i := 4) (N := some 202) (v := ?_) (a' := ?_) (bz 39 31) rfl rfl (Zm HT_.out (by kernel_rfl)) (fun _ _ _ h => h) (Or.inl ⟨by rfl, ?_⟩) ?_ ?_
            rotate_left
            ·intro w'
             go_simp
             with_reducible rfl
            rotate_left
            ·simp only [Act.put, sA, sB, sC, i64_w, i32_w]
             rfl
            refine Ya (i := 6) (N := some 204) (v := ?_) (a' := ?_) (bz 39 95) rfl rfl (Zm HT_.out (by kernel_rfl)) (fun _ _ _ h => h) (Or.inl ⟨by rfl, ?_⟩) ?_ ?_
            rotate_left
            ·intro w'
             go_simp
             with_reducible rfl
            rotate_left
            ·simp only [Act.put, sA, sB, sC, i64_w, i32_w]
             rfl
            refine Ya (i := 9) (N := some 207) (v := ?_) (a' := ?_) (bz 39 607) rfl rfl (Zm HT_.out (by kernel_rfl)) (fun _ _ _ h => h) (Or.inl ⟨by rfl, ?_⟩) ?_ ?_
            rotate_left
            ·intro w'
             go_simp
             with_reducible rfl
            rotate_left
            ·simp only [Act.put, sA, sB, sC, i64_w, i32_w]
             rfl
            refine Ya (i := 12) (N := some 210) (v := ?_) (a' := ?_) (bz 39 4703) rfl rfl (Zm HT_.out (by kernel_rfl)) (fun _ _ _ h => h) (Or.inl ⟨by rfl, ?_⟩) ?_ ?_
            rotate_left
            ·intro w'
             go_simp
             with_reducible rfl
            rotate_left
            ·simp only [Act.put, sA, sB, sC, i64_w, i32_w]
             rfl
            refine Ya (i := 13) (N := some 211) (v := ?_) (a' := ?_) (bz 39 12895) rfl rfl (Zm HT_.out (by kernel_rfl)) (fun _ _ _ h => h) (Or.inl ⟨by rfl, ?_⟩) ?_ ?_
            rotate_left
            ·intro w'
             go_simp
             with_reducible rfl
            rotate_left
            ·simp only [Act.put, sA, sB, sC, i64_w, i32_w]
             rfl
            refine Ya (i := 14) (N := some 212) (v := ?_) (a' := ?_) (bz 39 29279) rfl rfl (Zm HT_.out (by kernel_rfl)) (fun _ _ _ h => h) (Or.inl ⟨by rfl, ?_⟩) ?_ ?_
            rotate_left
            ·intro w'
             go_simp
             with_reducible rfl
            rotate_left
            ·simp only [Act.put, sA, sB, sC, i64_w, i32_w]
             rfl
            refine Ya (i := 18) (N := some 216) (v := ?_) (a' := ?_) (bz 39 291423) rfl rfl (Zm HT_.out (by kernel_rfl)) (fun _ _ _ h => h) (Or.inl ⟨by rfl, ?_⟩) ?_ ?_
            rotate_left
            ·intro w'
             go_simp
             with_reducible rfl
            rotate_left
            ·simp only [Act.put, sA, sB, sC, i64_w, i32_w]
             rfl
            refine Ya (i := 20) (N := some 218) (v := ?_) (a' := ?_) (bz 39 1339999) rfl rfl (Zm HT_.out (by kernel_rfl)) (fun _ _ _ h => h) (Or.inl ⟨by rfl, ?_⟩) ?_ ?_
            rotate_left
            ·intro w'
             go_simp
             with_reducible rfl
            rotate_left
            ·simp only [Act.put, sA, sB, sC, i64_w, i32_w]
             rfl
            refine Ya (i := 21) (N := some 219) (v := ?_) (a' := ?_) (bz 39 3437151) rfl rfl (Zm HT_.out (by kernel_rfl)) (fun _ _ _ h => h) (Or.inl ⟨by rfl, ?_⟩) ?_ ?_
            rotate_left
            ·intro w'
             go_simp
             with_reducible rfl
            rotate_left
            ·simp only [Act.put, sA, sB, sC, i64_w, i32_w]
             rfl
            refine Ya (i := 22) (N := some 220) (v := ?_) (a' := ?_) (bz 39 7631455) rfl rfl (Zm HT_.out (by kernel_rfl)) (fun _ _ _ h => h) (Or.inl ⟨by rfl, ?_⟩) ?_ ?_
            rotate_left
            ·intro w'
             go_simp
             with_reducible rfl
            rotate_left
            ·simp only [Act.put, sA, sB, sC, i64_w, i32_w]
             rfl
            refine Ya (i := 24) (N := some 222) (v := ?_) (a' := ?_) (bz 39 24408671) rfl rfl (Zm HT_.out (by kernel_rfl)) (fun _ _ _ h => h) (Or.inl ⟨by rfl, ?_⟩) ?_ ?_
            rotate_left
            ·intro w'
             go_simp
             with_reducible rfl
            rotate_left
            ·simp only [Act.put, sA, sB, sC, i64_w, i32_w]
             rfl
            refine Ya (i := 27) (N := some 225) (v := ?_) (a' := ?_) (bz 39 158626399) rfl rfl (Zm HT_.out (by kernel_rfl)) (fun _ _ _ h => h) (Or.inl ⟨by rfl, ?_⟩) ?_ ?_
            rotate_left
            ·intro w'
             go_simp
             with_reducible rfl
            rotate_left
            ·simp only [Act.put, sA, sB, sC, i64_w, i32_w]
             rfl
            refine Ya (i := 30) (N := some 228) (v := ?_) (a' := ?_) (bz 39 1232368223) rfl rfl (Zm HT_.out (by kernel_rfl)) (fun _ _ _ h => h) (Or.inl ⟨by rfl, ?_⟩) ?_ ?_
            rotate_left
            ·intro w'
             go_simp
             with_reducible rfl
            rotate_left
            ·simp only [Act.put, sA, sB, sC, i64_w, i32_w]
             rfl
            refine inv_at [5, 7, 8, 10, 11, 15, 16, 17, 19, 23, 25, 26, 28, 29, 31, 32, 33, 34, 35, 36, 37, 38] (fun a0_ b a w' => ∃ (b34 : Value) (r35 : Value) (b36 : Value) (r37 : Value) (m38_ : Value), a = Zz a0_ b [(5, 203, .slice (some a4) l4.length c4), (7, 205, .pointer (some (a4.add xs.toNat))), (8, 206, .slice (some (e4 xs)) (N4 xs) (ce4 xs)), (10, 208, .pointer (some ((e4 xs).add xk.toNat))), (11, 209, .slice (some (h4 xs xk)) (H4 xs xk) (ch4 xs xk)), (15, 213, .int .i64 m), (16, 214, .pointer (some ((h4 xs xk).add m.toNat))), (17, 215, .int .i64 (rd (rd_L4 (rd_L5 l4 xs) xk) m)), (19, 217, .int .i64 (wrap64 ((rd (rd_L4 (rd_L5 l4 xs) xk) m) * (p2.length : Int)))), (23, 221, .slice (some b4) p4.length d4), (25, 223, .pointer (some (b4.add xt.toNat))), (26, 224, .slice (some (f4 xt)) (M4 xt) (df4 xt)), (28, 226, .pointer (some ((f4 xt).add xk.toNat))), (29, 227, .slice (some (j4 xt xk)) (J4 xt xk) (dj4 xt xk)), (31, 229, .pointer (some ((j4 xt xk).add m'.toNat))), (32, 230, .int .i64 (rd (rd_L4 (rd_L5 p4 xt) xk) m')), (33, 231, .int .i64 (wrap64 (wrap64 ((rd (rd_L4 (rd_L5 l4 xs) xk) m) * (p2.length : Int)) + (rd (rd_L4 (rd_L5 p4 xt) xk) m')))), (34, 232, b34), (35, 233, r35), (36, 234, b36), (37, 235, r37), (38, 14, m38_)] ∧ (Below w.heap.size w w') ∧ (b 35 = false → AllB w w' gX gZ (cellsI (wrap64 (m * m')) (wrap64 (wrap64 (st * (p2.length : Int)) + st')) (.slice A105 n105 c105) vC vR vI) cZ (.slice A105 n105 c105) vC vR vI v151 u14 u15 u19 (LAs acc (s * p2.length + t) ++ [acc (s * p2.length + t)]) (LCs call (s * p2.length + t)) (LRs kk back (s * p2.length + t)) (LIs inner (s * p2.length + t)) ((List.range (k + 1)).map (call (s * p2.length + t))) ((List.range k).map (fun q => rowL kk (back (s * p2.length + t) q))) ((List.range k).map (inner (s * p2.length + t))) ((List.range (mn * mm)).map (back (s * p2.length + t) k))) ∧ (b 35 = true → b 37 = false → AllB w w' gX gZ (cellsI (wrap64 (m * m')) (wrap64 (wrap64 (st * (p2.length : Int)) + st')) (.slice A105 n105 c105) vC vR vI) cZ (.slice A105 n105 c105) vC vR vI v151 u14 u15 r35 (LAs acc (s * p2.length + t) ++ [acc (s * p2.length + t)]) (LCs call (s * p2.length + t)) (LRs kk back (s * p2.length + t)) (LIs inner (s * p2.length + t)) ((List.range (k + 1)).map (call (s * p2.length + t))) ((List.range k).map (fun q => rowL kk (back (s * p2.length + t) q))) ((List.range k).map (inner (s * p2.length + t))) (((List.range (mn * mm)).map (back (s * p2.length + t) k)) ++ [(wrap64 (wrap64 ((rd (rd_L4 (rd_L5 l4 xs) xk) m) * (p2.length : Int)) + (rd (rd_L4 (rd_L5 p4 xt) xk) m')))])) ∧ (b 37 = true → AllB w w' gX gZ (cellsI (wrap64 (m * m')) (wrap64 (wrap64 (st * (p2.length : Int)) + st')) (.slice A105 n105 c105) vC vR vI) cZ (.slice A105 n105 c105) vC vR vI v151 r37 u15 (.slice none 0 0) (LAs acc (s * p2.length + t) ++ [acc (s * p2.length + t)]) (LCs call (s * p2.length + t)) (LRs kk back (s * p2.length + t)) (LIs inner (s * p2.length + t)) ((List.range (k + 1)).map (call (s * p2.length + t))) (((List.range k).map (fun q => rowL kk (back (s * p2.length + t) q))) ++ [(((List.range (mn * mm)).map (back (s * p2.length + t) k)) ++ [(wrap64 (wrap64 ((rd (rd_L4 (rd_L5 l4 xs) xk) m) * (p2.length : Int)) + (rd (rd_L4 (rd_L5 p4 xt) xk) m')))])]) ((List.range k).map (inner (s * p2.length + t))) []) ∧ (b 34 = true → b 35 = false → ∃ g_ : Nat, b34 = .slice (some ⟨g_, 0, none⟩) 1 1 ∧ w'.heap[g_]? = some (.cells [.int .i64 (wrap64 (wrap64 ((rd (rd_L4 (rd_L5 l4 xs) xk) m) * (p2.length : Int)) + (rd (rd_L4 (rd_L5 p4 xt) xk) m')))].toArray 2 (0, 0))) ∧ (b 36 = true → b 37 = false → ∃ g_ : Nat, b36 = .slice (some ⟨g_, 0, none⟩) 1 1 ∧ w'.heap[g_]? = some (.cells [r35].toArray 49 (0, 0))) ∧ (b 38 = true → (m38_ : Value) = r37)) HT_.out HW_.out (by kernel_rfl) (by kernel_rfl) ?_ ?_ ?_
            ·exact ⟨.bool false, .bool false, .bool false, .bool false, .bool false, by simp only [Zz, Bool.false_eq_true, if_false], HW.out, fun _ => ALL0.out, fun h_ => absurd h_ (by decide), fun h_ => absurd h_ (by decide), fun h_ => absurd h_ (by decide), fun h_ => absurd h_ (by decide), fun h_ => absurd h_ (by decide)⟩
            ·skip
             clear ALL0 HW
             refine Za ?_ ?_
             ·rintro b a w' ⟨b34, r35, b36, r37, m38_, ha, Q_HW, Q_ALL0, Q_ALL1, Q_ALL2, Q_BK34, Q_BK36, Q_X38_⟩ hb_ hon hoff
              refine ⟨_, rfl, fun K hK => ?_⟩
              have e202 : a.tmps[202]? = some (.pointer (some ⟨gc, 4, none⟩)) := xH_ ha rfl rfl
              replace ha := AZ.mk ha
              have HW := AZ.mk Q_HW
              have hc_ := rdc HW.out Kc4.out
              refine Zg (w1 := w') (v := .slice (some a4) l4.length c4) (by rfl) rfl (by go_simp; (try simp only [i64_w]); try rfl) ?_
              refine hK.out _ _ ⟨b34, r35, b36, r37, m38_, (xI_ ha.out 0 hb_ rfl rfl rfl), Q_HW, Q_ALL0, xB_ (hoff 35 rfl), xA_ (hoff 37 rfl), xB_ (hoff 34 rfl), xB_ (hoff 36 rfl), xA_ (hoff 38 rfl)⟩
             refine Za ?_ ?_
             ·rintro b a w' ⟨b34, r35, b36, r37, m38_, ha, Q_HW, Q_ALL0, Q_ALL1, Q_ALL2, Q_BK34, Q_BK36, Q_X38_⟩ hb_ hon hoff
              refine ⟨_, rfl, fun K hK => ?_⟩
              have e203 := xG_ ha 0 rfl (hon 5 rfl) rfl rfl
              have e204 : a.tmps[204]? = some (.int .i64 xs) := xH_ ha rfl rfl
              replace ha := AZ.mk ha
              refine Zg (w1 := w') (v := .pointer (some (a4.add xs.toNat))) (by rfl) rfl (by go_simp; (try simp only [i64_w]); try rfl) ?_
              refine hK.out _ _ ⟨b34, r35, b36, r37, m38_, (xI_ ha.out 1 hb_ rfl rfl rfl), Q_HW, Q_ALL0, xB_ (hoff 35 rfl), xA_ (hoff 37 rfl), xB_ (hoff 34 rfl), xB_ (hoff 36 rfl), xA_ (hoff 38 rfl)⟩
             refine Za ?_ ?_
             ·rintro b a w' ⟨b34, r35, b36, r37, m38_, ha, Q_HW, Q_ALL0, Q_ALL1, Q_ALL2, Q_BK34, Q_BK36, Q_X38_⟩ hb_ hon hoff
              refine ⟨_, rfl, fun K hK => ?_⟩
              have e205 := xG_ ha 1 rfl (hon 7 rfl) rfl rfl
              replace ha := AZ.mk ha
              have HW := AZ.mk Q_HW
              have hc_ := rdc HW.out E4.out
              refine Zg (w1 := w') (v := .slice (some (e4 xs)) (N4 xs) (ce4 xs)) (by rfl) rfl (by go_simp; (try simp only [i64_w]); try rfl) ?_
              refine hK.out _ _ ⟨b34, r35, b36, r37, m38_, (xI_ ha.out 2 hb_ rfl rfl rfl), Q_HW, Q_ALL0, xB_ (hoff 35 rfl), xA_ (hoff 37 rfl), xB_ (hoff 34 rfl), xB_ (hoff 36 rfl), xA_ (hoff 38 rfl)⟩
             refine Za ?_ ?_
             ·rintro b a w' ⟨b34, r35, b36, r37, m38_, ha, Q_HW, Q_ALL0, Q_ALL1, Q_ALL2, Q_BK34, Q_BK36, Q_X38_⟩ hb_ hon hoff
              refine ⟨_, rfl, fun K hK => ?_⟩
              have e206 := xG_ ha 2 rfl (hon 8 rfl) rfl rfl
              have e207 : a.tmps[207]? = some (.int .i64 xk) := xH_ ha rfl rfl
              replace ha := AZ.mk ha
              refine Zg (w1 := w') (v := .pointer (some ((e4 xs).add xk.toNat))) (by rfl) rfl (by go_simp; (try simp only [i64_w]); try rfl) ?_
              refine hK.out _ _ ⟨b34, r35, b36, r37, m38_, (xI_ ha.out 3 hb_ rfl rfl rfl), Q_HW, Q_ALL0, xB_ (hoff 35 rfl), xA_ (hoff 37 rfl), xB_ (hoff 34 rfl), xB_ (hoff 36 rfl), xA_ (hoff 38 rfl)⟩
             refine Za ?_ ?_
             ·rintro b a w' ⟨b34, r35, b36, r37, m38_, ha, Q_HW, Q_ALL0, Q_ALL1, Q_ALL2, Q_BK34, Q_BK36, Q_X38_⟩ hb_ hon hoff
              refine ⟨_, rfl, fun K hK => ?_⟩
              have e208 := xG_ ha 3 rfl (hon 10 rfl) rfl rfl
              replace ha := AZ.mk ha
              have HW := AZ.mk Q_HW
              have hc_ := rdc HW.out E4k.out
              refine Zg (w1 := w') (v := .slice (some (h4 xs xk)) (H4 xs xk) (ch4 xs xk)) (by rfl) rfl (by go_simp; (try simp only [i64_w]); try rfl) ?_
              refine hK.out _ _ ⟨b34, r35, b36, r37, m38_, (xI_ ha.out 4 hb_ rfl rfl rfl), Q_HW, Q_ALL0, xB_ (hoff 35 rfl), xA_ (hoff 37 rfl), xB_ (hoff 34 rfl), xB_ (hoff 36 rfl), xA_ (hoff 38 rfl)⟩
             refine Za ?_ ?_
             ·rintro b a w' ⟨b34, r35, b36, r37, m38_, ha, Q_HW, Q_ALL0, Q_ALL1, Q_ALL2, Q_BK34, Q_BK36, Q_X38_⟩ hb_ hon hoff
              refine ⟨_, rfl, fun K hK => ?_⟩
              have e212 : a.tmps[212]? = some (.pointer (some ⟨gc, 0, none⟩)) := xH_ ha rfl rfl
              replace ha := AZ.mk ha
              have HW := AZ.mk Q_HW
              have hc_ := rdc HW.out Kc0.out
              refine Zg (w1 := w') (v := .int .i64 m) (by rfl) rfl (by go_simp; (try simp only [i64_w]); try rfl) ?_
              refine hK.out _ _ ⟨b34, r35, b36, r37, m38_, (xI_ ha.out 5 hb_ rfl rfl rfl), Q_HW, Q_ALL0, xB_ (hoff 35 rfl), xA_ (hoff 37 rfl), xB_ (hoff 34 rfl), xB_ (hoff 36 rfl), xA_ (hoff 38 rfl)⟩
             refine Za ?_ ?_
             ·rintro b a w' ⟨b34, r35, b36, r37, m38_, ha, Q_HW, Q_ALL0, Q_ALL1, Q_ALL2, Q_BK34, Q_BK36, Q_X38_⟩ hb_ hon hoff
              refine ⟨_, rfl, fun K hK => ?_⟩
              have e209 := xG_ ha 4 rfl (hon 11 rfl) rfl rfl
              have e213 := xG_ ha 5 rfl (hon 15 rfl) rfl rfl
              replace ha := AZ.mk ha
              refine Zg (w1 := w') (v := .pointer (some ((h4 xs xk).add m.toNat))) (by rfl) rfl (by go_simp; (try simp only [i64_w]); try rfl) ?_
              refine hK.out _ _ ⟨b34, r35, b36, r37, m38_, (xI_ ha.out 6 hb_ rfl rfl rfl), Q_HW, Q_ALL0, xB_ (hoff 35 rfl), xA_ (hoff 37 rfl), xB_ (hoff 34 rfl), xB_ (hoff 36 rfl), xA_ (hoff 38 rfl)⟩
             refine Za ?_ ?_
             ·rintro b a w' ⟨b34, r35, b36, r37, m38_, ha, Q_HW, Q_ALL0, Q_ALL1, Q_ALL2, Q_BK34, Q_BK36, Q_X38_⟩ hb_ hon hoff
              refine ⟨_, rfl, fun K hK => ?_⟩
              have e214 := xG_ ha 6 rfl (hon 16 rfl) rfl rfl
              replace ha := AZ.mk ha
              have HW := AZ.mk Q_HW
              have hc_ := rdc HW.out E4m.out
              refine Zg (w1 := w') (v := .int .i64 (rd (rd_L4 (rd_L5 l4 xs) xk) m)) (by rfl) rfl (by go_simp; (try simp only [i64_w]); try rfl) ?_
              refine hK.out _ _ ⟨b34, r35, b36, r37, m38_, (xI_ ha.out 7 hb_ rfl rfl rfl), Q_HW, Q_ALL0, xB_ (hoff 35 rfl), xA_ (hoff 37 rfl), xB_ (hoff 34 rfl), xB_ (hoff 36 rfl), xA_ (hoff 38 rfl)⟩
             refine Za ?_ ?_
             ·rintro b a w' ⟨b34, r35, b36, r37, m38_, ha, Q_HW, Q_ALL0, Q_ALL1, Q_ALL2, Q_BK34, Q_BK36, Q_X38_⟩ hb_ hon hoff
              refine ⟨_, rfl, fun K hK => ?_⟩
              have e215 := xG_ ha 7 rfl (hon 17 rfl) rfl rfl
              have e216 : a.tmps[216]? = some (.int .i64 (p2.length : Int)) := xH_ ha rfl rfl
              replace ha := AZ.mk ha
              refine Zg (w1 := w') (v := .int .i64 (wrap64 ((rd (rd_L4 (rd_L5 l4 xs) xk) m) * (p2.length : Int)))) (by rfl) rfl (by go_simp; (try simp only [i64_w]); try rfl) ?_
              refine hK.out _ _ ⟨b34, r35, b36, r37, m38_, (xI_ ha.out 8 hb_ rfl rfl rfl), Q_HW, Q_ALL0, xB_ (hoff 35 rfl), xA_ (hoff 37 rfl), xB_ (hoff 34 rfl), xB_ (hoff 36 rfl), xA_ (hoff 38 rfl)⟩
             refine Za ?_ ?_
             ·rintro b a w' ⟨b34, r35, b36, r37, m38_, ha, Q_HW, Q_ALL0, Q_ALL1, Q_ALL2, Q_BK34, Q_BK36, Q_X38_⟩ hb_ hon hoff
              refine ⟨_, rfl, fun K hK => ?_⟩
              have e220 : a.tmps[220]? = some (.pointer (some ⟨gd, 4, none⟩)) := xH_ ha rfl rfl
              replace ha := AZ.mk ha
              have HW := AZ.mk Q_HW
              have hc_ := rdc HW.out Kd4.out
              refine Zg (w1 := w') (v := .slice (some b4) p4.length d4) (by rfl) rfl (by go_simp; (try simp only [i64_w]); try rfl) ?_
              refine hK.out _ _ ⟨b34, r35, b36, r37, m38_, (xI_ ha.out 9 hb_ rfl rfl rfl), Q_HW, Q_ALL0, xB_ (hoff 35 rfl), xA_ (hoff 37 rfl), xB_ (hoff 34 rfl), xB_ (hoff 36 rfl), xA_ (hoff 38 rfl)⟩
             refine Za ?_ ?_
             ·rintro b a w' ⟨b34, r35, b36, r37, m38_, ha, Q_HW, Q_ALL0, Q_ALL1, Q_ALL2, Q_BK34, Q_BK36, Q_X38_⟩ hb_ hon hoff
              refine ⟨_, rfl, fun K hK => ?_⟩
              have e221 := xG_ ha 9 rfl (hon 23 rfl) rfl rfl
              have e222 : a.tmps[222]? = some (.int .i64 xt) := xH_ ha rfl rfl
              replace ha := AZ.mk ha
              refine Zg (w1 := w') (v := .pointer (some (b4.add xt.toNat))) (by rfl) rfl (by go_simp; (try simp only [i64_w]); try rfl) ?_
              refine hK.out _ _ ⟨b34, r35, b36, r37, m38_, (xI_ ha.out 10 hb_ rfl rfl rfl), Q_HW, Q_ALL0, xB_ (hoff 35 rfl), xA_ (hoff 37 rfl), xB_ (hoff 34 rfl), xB_ (hoff 36 rfl), xA_ (hoff 38 rfl)⟩
             refine Za ?_ ?_
             ·rintro b a w' ⟨b34, r35, b36, r37, m38_, ha, Q_HW, Q_ALL0, Q_ALL1, Q_ALL2, Q_BK34, Q_BK36, Q_X38_⟩ hb_ hon hoff
              refine ⟨_, rfl, fun K hK => ?_⟩
              have e223 := xG_ ha 10 rfl (hon 25 rfl) rfl rfl
              replace ha := AZ.mk ha
              have HW := AZ.mk Q_HW
              have hc_ := rdc HW.out D4.out
              refine Zg (w1 := w') (v := .slice (some (f4 xt)) (M4 xt) (df4 xt)) (by rfl) rfl (by go_simp; (try simp only [i64_w]); try rfl) ?_
              refine hK.out _ _ ⟨b34, r35, b36, r37, m38_, (xI_ ha.out 11 hb_ rfl rfl rfl), Q_HW, Q_ALL0, xB_ (hoff 35 rfl), xA_ (hoff 37 rfl), xB_ (hoff 34 rfl), xB_ (hoff 36 rfl), xA_ (hoff 38 rfl)⟩
             refine Za ?_ ?_
             ·rintro b a w' ⟨b34, r35, b36, r37, m38_, ha, Q_HW, Q_ALL0, Q_ALL1, Q_ALL2, Q_BK34, Q_BK36, Q_X38_⟩ hb_ hon hoff
              refine ⟨_, rfl, fun K hK => ?_⟩
              have e224 := xG_ ha 11 rfl (hon 26 rfl) rfl rfl
              have e225 : a.tmps[225]? = some (.int .i64 xk) := xH_ ha rfl rfl
              replace ha := AZ.mk ha
              refine Zg (w1 := w') (v := .pointer (some ((f4 xt).add xk.toNat))) (by rfl) rfl (by go_simp; (try simp only [i64_w]); try rfl) ?_
              refine hK.out _ _ ⟨b34, r35, b36, r37, m38_, (xI_ ha.out 12 hb_ rfl rfl rfl), Q_HW, Q_ALL0, xB_ (hoff 35 rfl), xA_ (hoff 37 rfl), xB_ (hoff 34 rfl), xB_ (hoff 36 rfl), xA_ (hoff 38 rfl)⟩
             refine Za ?_ ?_
             ·rintro b a w' ⟨b34, r35, b36, r37, m38_, ha, Q_HW, Q_ALL0, Q_ALL1, Q_ALL2, Q_BK34, Q_BK36, Q_X38_⟩ hb_ hon hoff
              refine ⟨_, rfl, fun K hK => ?_⟩
              have e226 := xG_ ha 12 rfl (hon 28 rfl) rfl rfl
              replace ha := AZ.mk ha
              have HW := AZ.mk Q_HW
              have hc_ := rdc HW.out D4k.out
              refine Zg (w1 := w') (v := .slice (some (j4 xt xk)) (J4 xt xk) (dj4 xt xk)) (by rfl) rfl (by go_simp; (try simp only [i64_w]); try rfl) ?_
              refine hK.out _ _ ⟨b34, r35, b36, r37, m38_, (xI_ ha.out 13 hb_ rfl rfl rfl), Q_HW, Q_ALL0, xB_ (hoff 35 rfl), xA_ (hoff 37 rfl), xB_ (hoff 34 rfl), xB_ (hoff 36 rfl), xA_ (hoff 38 rfl)⟩
             refine Za ?_ ?_
             ·rintro b a w' ⟨b34, r35, b36, r37, m38_, ha, Q_HW, Q_ALL0, Q_ALL1, Q_ALL2, Q_BK34, Q_BK36, Q_X38_⟩ hb_ hon hoff
              refine ⟨_, rfl, fun K hK => ?_⟩
              have e227 := xG_ ha 13 rfl (hon 29 rfl) rfl rfl
              have e228 : a.tmps[228]? = some (.int .i64 m') := xH_ ha rfl rfl
              replace ha := AZ.mk ha
              refine Zg (w1 := w') (v := .pointer (some ((j4 xt xk).add m'.toNat))) (by rfl) rfl (by go_simp; (try simp only [i64_w]); try rfl) ?_
              refine hK.out _ _ ⟨b34, r35, b36, r37, m38_, (xI_ ha.out 14 hb_ rfl rfl rfl), Q_HW, Q_ALL0, xB_ (hoff 35 rfl), xA_ (hoff 37 rfl), xB_ (hoff 34 rfl), xB_ (hoff 36 rfl), xA_ (hoff 38 rfl)⟩
             refine Za ?_ ?_
             ·rintro b a w' ⟨b34, r35, b36, r37, m38_, ha, Q_HW, Q_ALL0, Q_ALL1, Q_ALL2, Q_BK34, Q_BK36, Q_X38_⟩ hb_ hon hoff
              refine ⟨_, rfl, fun K hK => ?_⟩
              have e229 := xG_ ha 14 rfl (hon 31 rfl) rfl rfl
              replace ha := AZ.mk ha
              have HW := AZ.mk Q_HW
              have hc_ := rdc HW.out D4m.out
              refine Zg (w1 := w') (v := .int .i64 (rd (rd_L4 (rd_L5 p4 xt) xk) m')) (by rfl) rfl (by go_simp; (try simp only [i64_w]); try rfl) ?_
              refine hK.out _ _ ⟨b34, r35, b36, r37, m38_, (xI_ ha.out 15 hb_ rfl rfl rfl), Q_HW, Q_ALL0, xB_ (hoff 35 rfl), xA_ (hoff 37 rfl), xB_ (hoff 34 rfl), xB_ (hoff 36 rfl), xA_ (hoff 38 rfl)⟩
             refine Za ?_ ?_
             ·rintro b a w' ⟨b34, r35, b36, r37, m38_, ha, Q_HW, Q_ALL0, Q_ALL1, Q_ALL2, Q_BK34, Q_BK36, Q_X38_⟩ hb_ hon hoff
              refine ⟨_, rfl, fun K hK => ?_⟩
              have e217 := xG_ ha 8 rfl (hon 19 rfl) rfl rfl
              have e230 := xG_ ha 15 rfl (hon 32 rfl) rfl rfl
              replace ha := AZ.mk ha
              refine Zg (w1 := w') (v := .int .i64 (wrap64 (wrap64 ((rd (rd_L4 (rd_L5 l4 xs) xk) m) * (p2.length : Int)) + (rd (rd_L4 (rd_L5 p4 xt) xk) m')))) (by rfl) rfl (by go_simp; (try simp only [i64_w]); try rfl) ?_
              refine hK.out _ _ ⟨b34, r35, b36, r37, m38_, (xI_ ha.out 16 hb_ rfl rfl rfl), Q_HW, Q_ALL0, xB_ (hoff 35 rfl), xA_ (hoff 37 rfl), xB_ (hoff 34 rfl), xB_ (hoff 36 rfl), xA_ (hoff 38 rfl)⟩
             refine Za ?_ ?_
             ·rintro b a w' ⟨b34, r35, b36, r37, m38_, ha, Q_HW, Q_ALL0, Q_ALL1, Q_ALL2, Q_BK34, Q_BK36, Q_X38_⟩ hb_ hon hoff
              refine ⟨_, rfl, fun K hK => ?_⟩
              have e231 := xG_ ha 16 rfl (hon 33 rfl) rfl rfl
              replace ha := AZ.mk ha
              have HW := AZ.mk Q_HW
              have ALL0 := AZ.mk (Q_ALL0 (hoff 35 rfl))
              refine Zg (w1 := ?_) (v := ?_) (by rfl) rfl ?_ ?_
              rotate_left 2
              ·go_simp
               constructor
               ·rfl
               ·rfl
              refine hK.out _ _ ⟨.slice (some ⟨w'.heap.size, 0, none⟩) 1 1, r35, b36, r37, m38_, (xI_ ha.out 17 hb_ rfl rfl rfl), pA HW.out _, fun _ => All.alloc (ALL0.out) _, xB_ (hoff 35 rfl), xA_ (hoff 37 rfl), fun _ _ => ⟨w'.heap.size, rfl, heap_alloc_new w' _⟩, xB_ (hoff 36 rfl), xA_ (hoff 38 rfl)⟩
             refine Za ?_ ?_
             ·rintro b a w' ⟨b34, r35, b36, r37, m38_, ha, Q_HW, Q_ALL0, Q_ALL1, Q_ALL2, Q_BK34, Q_BK36, Q_X38_⟩ hb_ hon hoff
              refine ⟨_, rfl, fun K hK => ?_⟩
              have e199 : a.tmps[199]? = some (u19) := xH_ ha rfl rfl
              have e232 := xG_ ha 17 rfl (hon 34 rfl) rfl rfl
              replace ha := AZ.mk ha
              have ALL0 := AZ.mk (Q_ALL0 hb_)
              have BK34 := AZ.mk (Q_BK34 (hon 34 rfl) hb_)
              obtain ⟨g_, hq_, hg_⟩ := BK34.out
              refine All.app_lS bap ALL0.out (by rfl) (.tmp 199) (.tmp 232) 49 (wrap64 (wrap64 ((rd (rd_L4 (rd_L5 l4 xs) xk) m) * (p2.length : Int)) + (rd (rd_L4 (rd_L5 p4 xt) xk) m'))) rfl Try.underlying49 bi2 (Zt e199) g_ ((Zt e232).trans hq_) hg_ (by rw [List.length_map, List.length_range]; have := HLEN.out; omega) ?_
              intro v_ w_ ho hfar
              refine hK.out _ _ ⟨b34, v_, b36, r37, m38_, (xI_ ha.out 18 hb_ rfl rfl rfl), (All.blw ho), xD_ (Yd b 35), fun _ _ => ho, xA_ (hoff 37 rfl), xC_ (Yd b 35), xB_ (hoff 36 rfl), xA_ (hoff 38 rfl)⟩
             refine Za ?_ ?_
             ·rintro b a w' ⟨b34, r35, b36, r37, m38_, ha, Q_HW, Q_ALL0, Q_ALL1, Q_ALL2, Q_BK34, Q_BK36, Q_X38_⟩ hb_ hon hoff
              refine ⟨_, rfl, fun K hK => ?_⟩
              have e233 := xG_ ha 18 rfl (hon 35 rfl) rfl rfl
              replace ha := AZ.mk ha
              have HW := AZ.mk Q_HW
              have ALL1 := AZ.mk (Q_ALL1 (hon 35 rfl) (hoff 37 rfl))
              obtain ⟨A_, n_, c_, hr_⟩ := (shapes ALL1.out).1
              subst hr_
              refine Zg (w1 := ?_) (v := ?_) (by rfl) rfl ?_ ?_
              rotate_left 2
              ·go_simp
               constructor
               ·rfl
               ·rfl
              refine hK.out _ _ ⟨b34, (.slice A_ n_ c_), .slice (some ⟨w'.heap.size, 0, none⟩) 1 1, r37, m38_, (xI_ ha.out 19 hb_ rfl rfl rfl), pA HW.out _, xD_ (hon 35 rfl), fun _ _ => All.alloc (ALL1.out) _, xA_ (hoff 37 rfl), xC_ (hon 35 rfl), fun _ _ => ⟨w'.heap.size, rfl, heap_alloc_new w' _⟩, xA_ (hoff 38 rfl)⟩
             refine Za ?_ ?_
             ·rintro b a w' ⟨b34, r35, b36, r37, m38_, ha, Q_HW, Q_ALL0, Q_ALL1, Q_ALL2, Q_BK34, Q_BK36, Q_X38_⟩ hb_ hon hoff
              refine ⟨_, rfl, fun K hK => ?_⟩
              have e198 : a.tmps[198]? = some (u14) := xH_ ha rfl rfl
              have e234 := xG_ ha 19 rfl (hon 36 rfl) rfl rfl
              replace ha := AZ.mk ha
              have ALL1 := AZ.mk (Q_ALL1 (hon 35 rfl) hb_)
              have BK36 := AZ.mk (Q_BK36 (hon 36 rfl) hb_)
              obtain ⟨g_, hq_, hg_⟩ := BK36.out
              refine All.app_bS bap ALL1.out (by rfl) (.tmp 198) (.tmp 234) 25 rfl Try.underlying25 bi49 (Zt e198) g_ ((Zt e234).trans hq_) hg_ (by rw [List.length_map, List.length_range]; have := HLK.out; omega) ?_
              intro v_ w_ ho hfar
              refine hK.out _ _ ⟨b34, r35, b36, v_, m38_, (xI_ ha.out 20 hb_ rfl rfl rfl), (All.blw ho), xD_ (hon 35 rfl), xC_ (Yd b 37), fun _ => ho, xC_ (hon 35 rfl), xC_ (Yd b 37), xA_ (hoff 38 rfl)⟩
             refine Za ?_ ?_
             ·rintro b a w' ⟨b34, r35, b36, r37, m38_, ha, Q_HW, Q_ALL0, Q_ALL1, Q_ALL2, Q_BK34, Q_BK36, Q_X38_⟩ hb_ hon hoff
              refine ⟨_, rfl, fun K hK => ?_⟩
              have e235 := xG_ ha 20 rfl (hon 37 rfl) rfl rfl
              replace ha := AZ.mk ha
              refine Zg (w1 := w') (v := r37) (by rfl) rfl (by go_simp; (try simp only [i64_w]); try rfl) ?_
              refine hK.out _ _ ⟨b34, r35, b36, r37, (r37), (xI_ ha.out 21 hb_ rfl rfl rfl), Q_HW, xD_ (hon 35 rfl), xC_ (hon 37 rfl), Q_ALL2, xC_ (hon 35 rfl), xC_ (hon 37 rfl), fun _ => rfl⟩
             exact steps_nil
            ·rintro b a w' hall ⟨b34, r35, b36, r37, m38_, ha, Q_HW, Q_ALL0, Q_ALL1, Q_ALL2, Q_BK34, Q_BK36, Q_X38_⟩
             clear ALL0 HW
             have hb5_ := hall 5 (by kernel_rfl)
             have hb7_ := hall 7 (by kernel_rfl)
             have hb8_ := hall 8 (by kernel_rfl)
             have hb10_ := hall 10 (by kernel_rfl)
             have hb11_ := hall 11 (by kernel_rfl)
             have hb15_ := hall 15 (by kernel_rfl)
             have hb16_ := hall 16 (by kernel_rfl)
             have hb17_ := hall 17 (by kernel_rfl)
             have hb19_ := hall 19 (by kernel_rfl)
             have hb23_ := hall 23 (by kernel_rfl)
             have hb25_ := hall 25 (by kernel_rfl)
             have hb26_ := hall 26 (by kernel_rfl)
             have hb28_ := hall 28 (by kernel_rfl)
             have hb29_ := hall 29 (by kernel_rfl)
             have hb31_ := hall 31 (by kernel_rfl)
             have hb32_ := hall 32 (by kernel_rfl)
             have hb33_ := hall 33 (by kernel_rfl)
             have hb34_ := hall 34 (by kernel_rfl)
             have hb35_ := hall 35 (by kernel_rfl)
             have hb36_ := hall 36 (by kernel_rfl)
             have hb37_ := hall 37 (by kernel_rfl)
             have hb38_ := hall 38 (by kernel_rfl)
             subst ha
             obtain rfl := Q_X38_ hb38_
             simp only [Zz, hb5_, hb7_, hb8_, hb10_, hb11_, hb15_, hb16_, hb17_, hb19_, hb23_, hb25_, hb26_, hb28_, hb29_, hb31_, hb32_, hb33_, hb34_, hb35_, hb36_, hb37_, hb38_, if_true, Act.put, sA, sB, sC]
             have HW := AZ.mk Q_HW
             clear Q_HW
             clear Q_ALL0
             clear Q_ALL1
             have ALL2 := AZ.mk (Q_ALL2 hb37_)
             clear Q_ALL2
             clear Q_BK34
             clear Q_BK36
             clear hall hb5_ hb7_ hb8_ hb10_ hb11_ hb15_ hb16_ hb17_ hb19_ hb23_ hb25_ hb26_ hb28_ hb29_ hb31_ hb32_ hb33_ hb34_ hb35_ hb36_ hb37_ hb38_
             clear hHeld HT_ HW_
             have HO := AZ.mk (show AllB w _ gX gZ (cellsI (wrap64 (m * m')) (wrap64 (wrap64 (st * (p2.length : Int)) + st')) (.slice A105 n105 c105) vC vR vI) cZ (.slice A105 n105 c105) vC vR vI v151 m38_ u15 nilV (LAs acc (s * p2.length + t) ++ [acc (s * p2.length + t)]) (LCs call (s * p2.length + t)) (LRs kk back (s * p2.length + t)) (LIs inner (s * p2.length + t)) ((List.range (k + 1)).map (call (s * p2.length + t))) ((List.range (k + 1)).map (fun q => rowL kk (back (s * p2.length + t) q))) ((List.range k).map (inner (s * p2.length + t))) [] by rw [map_succ (fun q => rowL kk (back (s * p2.length + t) q)) k, show rowL kk (back (s * p2.length + t) k) = (List.range (mn * mm)).map (back (s * p2.length + t) k) ++ [back (s * p2.length + t) k (mn * mm)] from by rw [HKK.out]; exact map_succ _ _, HEN.out s t k HL0.out HL1.out HL2.out, ← HXS.out, ← HXT.out, ← HXK.out, ← HM.out, ← HM'.out]; exact ALL2.out)
             clear ALL2 HW
             go_wp2
             refine start_ (n := 27) (S := fun w' => True) (ds := []) (bz 27 0) (by kernel_rfl) rfl rfl trivial (fun hHeld => ?_)
             refine Yh pairs.tab32 pairs.bits32 (fun HT_ HW_ => ?_)
             have ALL0 := AZ.mk (All.drew HO.out)
             have HW := AZ.mk (All.blw ALL0.out)
             clear HO
             generalize World.drew _ = wD at ALL0 HW hHeld ⊢
             refine Ya (i := 0) (N := some 236) (v := ?_) (a' := ?_) (bz 27 1) rfl rfl (Zm HT_.out (by kernel_rfl)) (fun _ _ _ h => h) (Or.inl ⟨by rfl, ?_⟩) ?_ ?_
             rotate_left
             ·intro w'
              go_simp
              with_reducible rfl
             rotate_left
             ·simp only [Act.put, sA, sB, sC, i64_w, i32_w]
              rfl
             refine Ya (i := 1) (N := some 237) (v := ?_) (a' := ?_) (bz 27 3) rfl rfl (Zm HT_.out (by kernel_rfl)) (fun _ _ _ h => h) (Or.inl ⟨by rfl, ?_⟩) ?_ ?_
             rotate_left
             ·intro w'
              go_simp
              with_reducible rfl
             rotate_left
             ·simp only [Act.put, sA, sB, sC, i64_w, i32_w]
              rfl
             refine Ya (i := 2) (N := some 238) (v := ?_) (a' := ?_) (bz 27 7) rfl rfl (Zm HT_.out (by kernel_rfl)) (fun _ _ _ h => h) (Or.inl ⟨by rfl, ?_⟩) ?_ ?_
             rotate_left
             ·intro w'
              go_simp
              with_reducible rfl
             rotate_left
             ·simp only [Act.put, sA, sB, sC, i64_w, i32_w]
              rfl
             refine Ya (i := 3) (N := some 239) (v := ?_) (a' := ?_) (bz 27 15) rfl rfl (Zm HT_.out (by kernel_rfl)) (fun _ _ _ h => h) (Or.inl ⟨by rfl, ?_⟩) ?_ ?_
             rotate_left
             ·intro w'
              go_simp
              with_reducible rfl
             rotate_left
             ·simp only [Act.put, sA, sB, sC, i64_w, i32_w]
              rfl
             refine Ya (i := 5) (N := some 241) (v := ?_) (a' := ?_) (bz 27 47) rfl rfl (Zm HT_.out (by kernel_rfl)) (fun _ _ _ h => h) (Or.inl ⟨by rfl, ?_⟩) ?_ ?_
             rotate_left
             ·intro w'
              go_simp
              with_reducible rfl
             rotate_left
             ·simp only [Act.put, sA, sB, sC, i64_w, i32_w]
              rfl
             refine Ya (i := 8) (N := some 244) (v := ?_) (a' := ?_) (bz 27 303) rfl rfl (Zm HT_.out (by kernel_rfl)) (fun _ _ _ h => h) (Or.inl ⟨by rfl, ?_⟩) ?_ ?_
             rotate_left
             ·intro w'
              go_simp
              with_reducible rfl
             rotate_left
             ·simp only [Act.put, sA, sB, sC, i64_w, i32_w]
              rfl
             refine Ya (i := 11) (N := some 247) (v := ?_) (a' := ?_) (bz 27 2351) rfl rfl (Zm HT_.out (by kernel_rfl)) (fun _ _ _ h => h) (Or.inl ⟨by rfl, ?_⟩) ?_ ?_
             rotate_left
             ·intro w'
              go_simp
              with_reducible rfl
             rotate_left
             ·simp only [Act.put, sA, sB, sC, i64_w, i32_w]
              rfl
             refine Ya (i := 13) (N := some 249) (v := ?_) (a' := ?_) (bz 27 10543) rfl rfl (Zm HT_.out (by kernel_rfl)) (fun _ _ _ h => h) (Or.inl ⟨by rfl, ?_⟩) ?_ ?_
             rotate_left
             ·intro w'
              go_simp
              with_reducible rfl
             rotate_left
             ·simp only [Act.put, sA, sB, sC, i64_w, i32_w]
              rfl
             refine Ya (i := 14) (N := some 250) (v := ?_) (a' := ?_) (bz 27 26927) rfl rfl (Zm HT_.out (by kernel_rfl)) (fun _ _ _ h => h) (Or.inl ⟨by rfl, ?_⟩) ?_ ?_
             rotate_left
             ·intro w'
              go_simp
              with_reducible rfl
             rotate_left
             ·simp only [Act.put, sA, sB, sC, i64_w, i32_w]
              rfl
             refine Ya (i := 15) (N := some 251) (v := ?_) (a' := ?_) (bz 27 59695) rfl rfl (Zm HT_.out (by kernel_rfl)) (fun _ _ _ h => h) (Or.inl ⟨by rfl, ?_⟩) ?_ ?_
             rotate_left
             ·intro w'
              go_simp
              with_reducible rfl
             rotate_left
             ·simp only [Act.put, sA, sB, sC, i64_w, i32_w]
              rfl
             refine Ya (i := 17) (N := some 253) (v := ?_) (a' := ?_) (bz 27 190767) rfl rfl (Zm HT_.out (by kernel_rfl)) (fun _ _ _ h => h) (Or.inl ⟨by rfl, ?_⟩) ?_ ?_
             rotate_left
             ·intro w'
              go_simp
              with_reducible rfl
             rotate_left
             ·simp only [Act.put, sA, sB, sC, i64_w, i32_w]
              rfl
             refine Ya (i := 20) (N := some 256) (v := ?_) (a' := ?_) (bz 27 1239343) rfl rfl (Zm HT_.out (by kernel_rfl)) (fun _ _ _ h => h) (Or.inl ⟨by rfl, ?_⟩) ?_ ?_
             rotate_left
             ·intro w'
              go_simp
              with_reducible rfl
             rotate_left
             ·simp only [Act.put, sA, sB, sC, i64_w, i32_w]
              rfl
             refine inv_at [4, 6, 7, 9, 10, 12, 16, 18, 19, 21, 22, 23, 24, 25, 26] (fun a0_ b a w' => ∃ (b24 : Value) (r25 : Value) (m26_ : Value), a = Zz a0_ b [(4, 240, .slice (some a5) l5.length c5), (6, 242, .pointer (some (a5.add xs.toNat))), (7, 243, .slice (some (e5 xs)) (N5 xs) (ce5 xs)), (9, 245, .pointer (some ((e5 xs).add xk.toNat))), (10, 246, .int .i64 (rd (rd_L4 l5 xs) xk)), (12, 248, .int .i64 (wrap64 ((rd (rd_L4 l5 xs) xk) * (p2.length : Int)))), (16, 252, .slice (some b5) p5.length d5), (18, 254, .pointer (some (b5.add xt.toNat))), (19, 255, .slice (some (f5 xt)) (M5 xt) (df5 xt)), (21, 257, .pointer (some ((f5 xt).add xk.toNat))), (22, 258, .int .i64 (rd (rd_L4 p5 xt) xk)), (23, 259, .int .i64 (wrap64 (wrap64 ((rd (rd_L4 l5 xs) xk) * (p2.length : Int)) + (rd (rd_L4 p5 xt) xk)))), (24, 260, b24), (25, 261, r25), (26, 15, m26_)] ∧ (Below w.heap.size w w') ∧ (b 25 = false → AllB w w' gX gZ (cellsI (wrap64 (m * m')) (wrap64 (wrap64 (st * (p2.length : Int)) + st')) (.slice A105 n105 c105) vC vR vI) cZ (.slice A105 n105 c105) vC vR vI v151 m38_ u15 (.slice none 0 0) (LAs acc (s * p2.length + t) ++ [acc (s * p2.length + t)]) (LCs call (s * p2.length + t)) (LRs kk back (s * p2.length + t)) (LIs inner (s * p2.length + t)) ((List.range (k + 1)).map (call (s * p2.length + t))) ((List.range (k + 1)).map (fun q => rowL kk (back (s * p2.length + t) q))) ((List.range k).map (inner (s * p2.length + t))) []) ∧ (b 25 = true → AllB w w' gX gZ (cellsI (wrap64 (m * m')) (wrap64 (wrap64 (st * (p2.length : Int)) + st')) (.slice A105 n105 c105) vC vR vI) cZ (.slice A105 n105 c105) vC vR vI v151 m38_ r25 (.slice none 0 0) (LAs acc (s * p2.length + t) ++ [acc (s * p2.length + t)]) (LCs call (s * p2.length + t)) (LRs kk back (s * p2.length + t)) (LIs inner (s * p2.length + t)) ((List.range (k + 1)).map (call (s * p2.length + t))) ((List.range (k + 1)).map (fun q => rowL kk (back (s * p2.length + t) q))) (((List.range k).map (inner (s * p2.length + t))) ++ [(wrap64 (wrap64 ((rd (rd_L4 l5 xs) xk) * (p2.length : Int)) + (rd (rd_L4 p5 xt) xk)))]) []) ∧ (b 24 = true → b 25 = false → ∃ g_ : Nat, b24 = .slice (some ⟨g_, 0, none⟩) 1 1 ∧ w'.heap[g_]? = some (.cells [.int .i64 (wrap64 (wrap64 ((rd (rd_L4 l5 xs) xk) * (p2.length : Int)) + (rd (rd_L4 p5 xt) xk)))].toArray 2 (0, 0))) ∧ (b 26 = true → (m26_ : Value) = r25)) HT_.out HW_.out (by kernel_rfl) (by kernel_rfl) ?_ ?_ ?_
             ·exact ⟨.bool false, .bool false, .bool false, by simp only [Zz, Bool.false_eq_true, if_false], HW.out, fun _ => ALL0.out, fun h_ => absurd h_ (by decide), fun h_ => absurd h_ (by decide), fun h_ => absurd h_ (by decide)⟩
             ·skip
              clear ALL0 HW
              refine Za ?_ ?_
              ·rintro b a w' ⟨b24, r25, m26_, ha, Q_HW, Q_ALL0, Q_ALL1, Q_BK24, Q_X26_⟩ hb_ hon hoff
               refine ⟨_, rfl, fun K hK => ?_⟩
               have e239 : a.tmps[239]? = some (.pointer (some ⟨gc, 5, none⟩)) := xH_ ha rfl rfl
               replace ha := AZ.mk ha
               have HW := AZ.mk Q_HW
               have hc_ := rdc HW.out Kc5.out
               refine Zg (w1 := w') (v := .slice (some a5) l5.length c5) (by rfl) rfl (by go_simp; (try simp only [i64_w]); try rfl) ?_
               refine hK.out _ _ ⟨b24, r25, m26_, (xI_ ha.out 0 hb_ rfl rfl rfl), Q_HW, Q_ALL0, xA_ (hoff 25 rfl), xB_ (hoff 24 rfl), xA_ (hoff 26 rfl)⟩
              refine Za ?_ ?_
              ·rintro b a w' ⟨b24, r25, m26_, ha, Q_HW, Q_ALL0, Q_ALL1, Q_BK24, Q_X26_⟩ hb_ hon hoff
               refine ⟨_, rfl, fun K hK => ?_⟩
               have e240 := xG_ ha 0 rfl (hon 4 rfl) rfl rfl
               have e241 : a.tmps[241]? = some (.int .i64 xs) := xH_ ha rfl rfl
               replace ha := AZ.mk ha
               refine Zg (w1 := w') (v := .pointer (some (a5.add xs.toNat))) (by rfl) rfl (by go_simp; (try simp only [i64_w]); try rfl) ?_
               refine hK.out _ _ ⟨b24, r25, m26_, (xI_ ha.out 1 hb_ rfl rfl rfl), Q_HW, Q_ALL0, xA_ (hoff 25 rfl), xB_ (hoff 24 rfl), xA_ (hoff 26 rfl)⟩
              refine Za ?_ ?_
              ·rintro b a w' ⟨b24, r25, m26_, ha, Q_HW, Q_ALL0, Q_ALL1, Q_BK24, Q_X26_⟩ hb_ hon hoff
               refine ⟨_, rfl, fun K hK => ?_⟩
               have e242 := xG_ ha 1 rfl (hon 6 rfl) rfl rfl
               replace ha := AZ.mk ha
               have HW := AZ.mk Q_HW
               have hc_ := rdc HW.out E5.out
               refine Zg (w1 := w') (v := .slice (some (e5 xs)) (N5 xs) (ce5 xs)) (by rfl) rfl (by go_simp; (try simp only [i64_w]); try rfl) ?_
               refine hK.out _ _ ⟨b24, r25, m26_, (xI_ ha.out 2 hb_ rfl rfl rfl), Q_HW, Q_ALL0, xA_ (hoff 25 rfl), xB_ (hoff 24 rfl), xA_ (hoff 26 rfl)⟩
              refine Za ?_ ?_
              ·rintro b a w' ⟨b24, r25, m26_, ha, Q_HW, Q_ALL0, Q_ALL1, Q_BK24, Q_X26_⟩ hb_ hon hoff
               refine ⟨_, rfl, fun K hK => ?_⟩
               have e243 := xG_ ha 2 rfl (hon 7 rfl) rfl rfl
               have e244 : a.tmps[244]? = some (.int .i64 xk) := xH_ ha rfl rfl
               replace ha := AZ.mk ha
               refine Zg (w1 := w') (v := .pointer (some ((e5 xs).add xk.toNat))) (by rfl) rfl (by go_simp; (try simp only [i64_w]); try rfl) ?_
               refine hK.out _ _ ⟨b24, r25, m26_, (xI_ ha.out 3 hb_ rfl rfl rfl), Q_HW, Q_ALL0, xA_ (hoff 25 rfl), xB_ (hoff 24 rfl), xA_ (hoff 26 rfl)⟩
              refine Za ?_ ?_
              ·rintro b a w' ⟨b24, r25, m26_, ha, Q_HW, Q_ALL0, Q_ALL1, Q_BK24, Q_X26_⟩ hb_ hon hoff
               refine ⟨_, rfl, fun K hK => ?_⟩
               have e245 := xG_ ha 3 rfl (hon 9 rfl) rfl rfl
               replace ha := AZ.mk ha
               have HW := AZ.mk Q_HW
               have hc_ := rdc HW.out E5k.out
               refine Zg (w1 := w') (v := .int .i64 (rd (rd_L4 l5 xs) xk)) (by rfl) rfl (by go_simp; (try simp only [i64_w]); try rfl) ?_
               refine hK.out _ _ ⟨b24, r25, m26_, (xI_ ha.out 4 hb_ rfl rfl rfl), Q_HW, Q_ALL0, xA_ (hoff 25 rfl), xB_ (hoff 24 rfl), xA_ (hoff 26 rfl)⟩
              refine Za ?_ ?_
              ·rintro b a w' ⟨b24, r25, m26_, ha, Q_HW, Q_ALL0, Q_ALL1, Q_BK24, Q_X26_⟩ hb_ hon hoff
               refine ⟨_, rfl, fun K hK => ?_⟩
               have e246 := xG_ ha 4 rfl (hon 10 rfl) rfl rfl
               have e247 : a.tmps[247]? = some (.int .i64 (p2.length : Int)) := xH_ ha rfl rfl
               replace ha := AZ.mk ha
               refine Zg (w1 := w') (v := .int .i64 (wrap64 ((rd (rd_L4 l5 xs) xk) * (p2.length : Int)))) (by rfl) rfl (by go_simp; (try simp only [i64_w]); try rfl) ?_
               refine hK.out _ _ ⟨b24, r25, m26_, (xI_ ha.out 5 hb_ rfl rfl rfl), Q_HW, Q_ALL0, xA_ (hoff 25 rfl), xB_ (hoff 24 rfl), xA_ (hoff 26 rfl)⟩
              refine Za ?_ ?_
              ·rintro b a w' ⟨b24, r25, m26_, ha, Q_HW, Q_ALL0, Q_ALL1, Q_BK24, Q_X26_⟩ hb_ hon hoff
               refine ⟨_, rfl, fun K hK => ?_⟩
               have e251 : a.tmps[251]? = some (.pointer (some ⟨gd, 5, none⟩)) := xH_ ha rfl rfl
               replace ha := AZ.mk ha
               have HW := AZ.mk Q_HW
               have hc_ := rdc HW.out Kd5.out
               refine Zg (w1 := w') (v := .slice (some b5) p5.length d5) (by rfl) rfl (by go_simp; (try simp only [i64_w]); try rfl) ?_
               refine hK.out _ _ ⟨b24, r25, m26_, (xI_ ha.out 6 hb_ rfl rfl rfl), Q_HW, Q_ALL0, xA_ (hoff 25 rfl), xB_ (hoff 24 rfl), xA_ (hoff 26 rfl)⟩
              refine Za ?_ ?_
              ·rintro b a w' ⟨b24, r25, m26_, ha, Q_HW, Q_ALL0, Q_ALL1, Q_BK24, Q_X26_⟩ hb_ hon hoff
               refine ⟨_, rfl, fun K hK => ?_⟩
               have e252 := xG_ ha 6 rfl (hon 16 rfl) rfl rfl
               have e253 : a.tmps[253]? = some (.int .i64 xt) := xH_ ha rfl rfl
               replace ha := AZ.mk ha
               refine Zg (w1 := w') (v := .pointer (some (b5.add xt.toNat))) (by rfl) rfl (by go_simp; (try simp only [i64_w]); try rfl) ?_
               refine hK.out _ _ ⟨b24, r25, m26_, (xI_ ha.out 7 hb_ rfl rfl rfl), Q_HW, Q_ALL0, xA_ (hoff 25 rfl), xB_ (hoff 24 rfl), xA_ (hoff 26 rfl)⟩
              refine Za ?_ ?_
              ·rintro b a w' ⟨b24, r25, m26_, ha, Q_HW, Q_ALL0, Q_ALL1, Q_BK24, Q_X26_⟩ hb_ hon hoff
               refine ⟨_, rfl, fun K hK => ?_⟩
               have e254 := xG_ ha 7 rfl (hon 18 rfl) rfl rfl
               replace ha := AZ.mk ha
               have HW := AZ.mk Q_HW
               have hc_ := rdc HW.out D5.out
               refine Zg (w1 := w') (v := .slice (some (f5 xt)) (M5 xt) (df5 xt)) (by rfl) rfl (by go_simp; (try simp only [i64_w]); try rfl) ?_
               refine hK.out _ _ ⟨b24, r25, m26_, (xI_ ha.out 8 hb_ rfl rfl rfl), Q_HW, Q_ALL0, xA_ (hoff 25 rfl), xB_ (hoff 24 rfl), xA_ (hoff 26 rfl)⟩
              refine Za ?_ ?_
              ·rintro b a w' ⟨b24, r25, m26_, ha, Q_HW, Q_ALL0, Q_ALL1, Q_BK24, Q_X26_⟩ hb_ hon hoff
               refine ⟨_, rfl, fun K hK => ?_⟩
               have e255 := xG_ ha 8 rfl (hon 19 rfl) rfl rfl
               have e256 : a.tmps[256]? = some (.int .i64 xk) := xH_ ha rfl rfl
               replace ha := AZ.mk ha
               refine Zg (w1 := w') (v := .pointer (some ((f5 xt).add xk.toNat))) (by rfl) rfl (by go_simp; (try simp only [i64_w]); try rfl) ?_
               refine hK.out _ _ ⟨b24, r25, m26_, (xI_ ha.out 9 hb_ rfl rfl rfl), Q_HW, Q_ALL0, xA_ (hoff 25 rfl), xB_ (hoff 24 rfl), xA_ (hoff 26 rfl)⟩
              refine Za ?_ ?_
              ·rintro b a w' ⟨b24, r25, m26_, ha, Q_HW, Q_ALL0, Q_ALL1, Q_BK24, Q_X26_⟩ hb_ hon hoff
               refine ⟨_, rfl, fun K hK => ?_⟩
               have e257 := xG_ ha 9 rfl (hon 21 rfl) rfl rfl
               replace ha := AZ.mk ha
               have HW := AZ.mk Q_HW
               have hc_ := rdc HW.out D5k.out
               refine Zg (w1 := w') (v := .int .i64 (rd (rd_L4 p5 xt) xk)) (by rfl) rfl (by go_simp; (try simp only [i64_w]); try rfl) ?_
               refine hK.out _ _ ⟨b24, r25, m26_, (xI_ ha.out 10 hb_ rfl rfl rfl), Q_HW, Q_ALL0, xA_ (hoff 25 rfl), xB_ (hoff 24 rfl), xA_ (hoff 26 rfl)⟩
              refine Za ?_ ?_
              ·rintro b a w' ⟨b24, r25, m26_, ha, Q_HW, Q_ALL0, Q_ALL1, Q_BK24, Q_X26_⟩ hb_ hon hoff
               refine ⟨_, rfl, fun K hK => ?_⟩
               have e248 := xG_ ha 5 rfl (hon 12 rfl) rfl rfl
               have e258 := xG_ ha 10 rfl (hon 22 rfl) rfl rfl
               replace ha := AZ.mk ha
               refine Zg (w1 := w') (v := .int .i64 (wrap64 (wrap64 ((rd (rd_L4 l5 xs) xk) * (p2.length : Int)) + (rd (rd_L4 p5 xt) xk)))) (by rfl) rfl (by go_simp; (try simp only [i64_w]); try rfl) ?_
               refine hK.out _ _ ⟨b24, r25, m26_, (xI_ ha.out 11 hb_ rfl rfl rfl), Q_HW, Q_ALL0, xA_ (hoff 25 rfl), xB_ (hoff 24 rfl), xA_ (hoff 26 rfl)⟩
              refine Za ?_ ?_
              ·rintro b a w' ⟨b24, r25, m26_, ha, Q_HW, Q_ALL0, Q_ALL1, Q_BK24, Q_X26_⟩ hb_ hon hoff
               refine ⟨_, rfl, fun K hK => ?_⟩
               have e259 := xG_ ha 11 rfl (hon 23 rfl) rfl rfl
               replace ha := AZ.mk ha
               have HW := AZ.mk Q_HW
               have ALL0 := AZ.mk (Q_ALL0 (hoff 25 rfl))
               refine Zg (w1 := ?_) (v := ?_) (by rfl) rfl ?_ ?_
               rotate_left 2
               ·go_simp
                constructor
                ·rfl
                ·rfl
               refine hK.out _ _ ⟨.slice (some ⟨w'.heap.size, 0, none⟩) 1 1, r25, m26_, (xI_ ha.out 12 hb_ rfl rfl rfl), pA HW.out _, fun _ => All.alloc (ALL0.out) _, xA_ (hoff 25 rfl), fun _ _ => ⟨w'.heap.size, rfl, heap_alloc_new w' _⟩, xA_ (hoff 26 rfl)⟩
              refine Za ?_ ?_
              ·rintro b a w' ⟨b24, r25, m26_, ha, Q_HW, Q_ALL0, Q_ALL1, Q_BK24, Q_X26_⟩ hb_ hon hoff
               refine ⟨_, rfl, fun K hK => ?_⟩
               have e236 : a.tmps[236]? = some (u15) := xH_ ha rfl rfl
               have e260 := xG_ ha 12 rfl (hon 24 rfl) rfl rfl
               replace ha := AZ.mk ha
               have ALL0 := AZ.mk (Q_ALL0 hb_)
               have BK24 := AZ.mk (Q_BK24 (hon 24 rfl) hb_)
               obtain ⟨g_, hq_, hg_⟩ := BK24.out
               refine All.app_iS bap ALL0.out (by rfl) (.tmp 236) (.tmp 260) 49 (wrap64 (wrap64 ((rd (rd_L4 l5 xs) xk) * (p2.length : Int)) + (rd (rd_L4 p5 xt) xk))) rfl Try.underlying49 bi2 (Zt e236) g_ ((Zt e260).trans hq_) hg_ (by rw [List.length_map, List.length_range]; have := HLK.out; omega) ?_
               intro v_ w_ ho hfar
               refine hK.out _ _ ⟨b24, v_, m26_, (xI_ ha.out 13 hb_ rfl rfl rfl), (All.blw ho), xD_ (Yd b 25), fun _ => ho, xC_ (Yd b 25), xA_ (hoff 26 rfl)⟩
              refine Za ?_ ?_
              ·rintro b a w' ⟨b24, r25, m26_, ha, Q_HW, Q_ALL0, Q_ALL1, Q_BK24, Q_X26_⟩ hb_ hon hoff
               refine ⟨_, rfl, fun K hK => ?_⟩
               have e261 := xG_ ha 13 rfl (hon 25 rfl) rfl rfl
               replace ha := AZ.mk ha
               refine Zg (w1 := w') (v := r25) (by rfl) rfl (by go_simp; (try simp only [i64_w]); try rfl) ?_
               refine hK.out _ _ ⟨b24, r25, (r25), (xI_ ha.out 14 hb_ rfl rfl rfl), Q_HW, xD_ (hon 25 rfl), Q_ALL1, xC_ (hon 25 rfl), fun _ => rfl⟩
              exact steps_nil
             ·rintro b a w' hall ⟨b24, r25, m26_, ha, Q_HW, Q_ALL0, Q_ALL1, Q_BK24, Q_X26_⟩
              clear ALL0 HW
              have hb4_ := hall 4 (by kernel_rfl)
              have hb6_ := hall 6 (by kernel_rfl)
              have hb7_ := hall 7 (by kernel_rfl)
              have hb9_ := hall 9 (by kernel_rfl)
              have hb10_ := hall 10 (by kernel_rfl)
              have hb12_ := hall 12 (by kernel_rfl)
              have hb16_ := hall 16 (by kernel_rfl)
              have hb18_ := hall 18 (by kernel_rfl)
              have hb19_ := hall 19 (by kernel_rfl)
              have hb21_ := hall 21 (by kernel_rfl)
              have hb22_ := hall 22 (by kernel_rfl)
              have hb23_ := hall 23 (by kernel_rfl)
              have hb24_ := hall 24 (by kernel_rfl)
              have hb25_ := hall 25 (by kernel_rfl)
              have hb26_ := hall 26 (by kernel_rfl)
              subst ha
              obtain rfl := Q_X26_ hb26_
              simp only [Zz, hb4_, hb6_, hb7_, hb9_, hb10_, hb12_, hb16_, hb18_, hb19_, hb21_, hb22_, hb23_, hb24_, hb25_, hb26_, if_true, Act.put, sA, sB, sC]
              have HW := AZ.mk Q_HW
              clear Q_HW
              clear Q_ALL0
              have ALL1 := AZ.mk (Q_ALL1 hb25_)
              clear Q_ALL1
              clear Q_BK24
              clear hall hb4_ hb6_ hb7_ hb9_ hb10_ hb12_ hb16_ hb18_ hb19_ hb21_ hb22_ hb23_ hb24_ hb25_ hb26_
              clear hHeld HT_ HW_
              have HO := AZ.mk (show AllB w _ gX gZ (cellsI (wrap64 (m * m')) (wrap64 (wrap64 (st * (p2.length : Int)) + st')) (.slice A105 n105 c105) vC vR vI) cZ (.slice A105 n105 c105) vC vR vI v151 m38_ m26_ nilV (LAs acc (s * p2.length + t) ++ [acc (s * p2.length + t)]) (LCs call (s * p2.length + t)) (LRs kk back (s * p2.length + t)) (LIs inner (s * p2.length + t)) ((List.range (k + 1)).map (call (s * p2.length + t))) ((List.range (k + 1)).map (fun q => rowL kk (back (s * p2.length + t) q))) ((List.range (k + 1)).map (inner (s * p2.length + t))) [] by rw [map_succ (inner (s * p2.length + t)) k, HIN.out s t k HL0.out HL1.out HL2.out, ← HXS.out, ← HXT.out, ← HXK.out]; exact ALL1.out)
              clear ALL1 HW
              go_wp2
              go_roundg gk2
              case measure => have := HK2.out; omega
              case rel => exact ⟨_, k + 1, rfl, ⟨⟨by have h8 := HXK.out; have := HL2.out; rw [bw _ (by omega) (by omega)]; omega, by have := HK2.out; omega, HL2.out⟩, HO.out⟩⟩
         ·have HX := AZ.mk (show 2 = k by have := HS2.out; omega)
          have c1 : decide (xk < 2) = false := dF (by have := HXK.out; have := HX.out; omega)
          clear hlt
          have e_ := HX.out
          clear HX
          subst e_
          obtain ⟨A13, n13, c13, e_⟩ := (shapes HO.out).2.1
          subst e_
          obtain ⟨A14, n14, c14, e_⟩ := (shapes HO.out).2.2.1
          subst e_
          obtain ⟨A15, n15, c15, e_⟩ := (shapes HO.out).2.2.2.1
          subst e_
          have xC3 := cellC HO.out 3 vC rfl
          go_wp2_with (first | ((with_reducible refine gate_builtin (b := .append) (xs := #[.tmp 263, .tmp 265]) rfl ?_); at_builtin; refine wpList_at ?_; refine All.app_C bap (All.alloc HO.out _) (by rfl) (.tmp 263) (.tmp 265) 23 rfl Try.underlying23 bi48 rfl _ rfl (heap_alloc_new _ _) (by simp only [LAs, LCs, LRs, LIs, List.length_append, List.length_cons, List.length_nil, List.length_map, List.length_range]; have := HLI.out; omega) (shC (w := w) ?_); intro A266 n266 c266 w266 ho; clear HO xC3; have HO := AZ.mk ho; clear ho; have xC3 := cellC HO.out 3 vC rfl; have xF3 := bf (All.boxC HO.out) 3) | ((with_reducible refine Yk (t := 23) (p := 267) rfl ?_); refine Yg (t := 23) (p := 267) (v := ?vo266) (w1 := World.setCell w266 ⟨gX, 3, none⟩ (.slice A266 n266 c266)) ?hg ?ho ?hn ?hr ?_; (case ho => rfl); (case hg => rfl); (case hn => rfl); (case hr => first | (go_simp; done) | (go_simp; rfl)); intro W267 hw; have n_ : AZ (AllB w W267 gX gZ (cellsI (wrap64 (m * m')) (wrap64 (wrap64 (st * (p2.length : Int)) + st')) (.slice A105 n105 c105) (.slice A266 n266 c266) vR vI) cZ (.slice A105 n105 c105) (.slice A266 n266 c266) vR vI nilV (.slice A14 n14 c14) (.slice A15 n15 c15) nilV (LAs acc (s * p2.length + t) ++ [acc (s * p2.length + t)]) ((LCs call (s * p2.length + t)) ++ [((List.range 2).map (call (s * p2.length + t)))]) (LRs kk back (s * p2.length + t)) (LIs inner (s * p2.length + t)) [] ((List.range 2).map (fun q => rowL kk (back (s * p2.length + t) q))) ((List.range 2).map (inner (s * p2.length + t))) []) := ⟨by rw [hw]; exact All.set bap HO.out 3 _⟩; clear HO hw xC3 xF3; have HO := n_; clear n_; have xC4 := cellC HO.out 4 vR rfl) | ((with_reducible refine gate_builtin (b := .append) (xs := #[.tmp 269, .tmp 271]) rfl ?_); at_builtin; refine wpList_at ?_; refine All.app_R bap (All.alloc HO.out _) (by rfl) (.tmp 269) (.tmp 271) 24 rfl Try.underlying24 bi25 rfl _ rfl (heap_alloc_new _ _) (by simp only [LAs, LCs, LRs, LIs, List.length_append, List.length_cons, List.length_nil, List.length_map, List.length_range]; have := HLI.out; omega) (shR (w := w) ?_); intro A272 n272 c272 w272 ho; clear HO xC4; have HO := AZ.mk ho; clear ho; have xC4 := cellC HO.out 4 vR rfl; have xF4 := bf (All.boxC HO.out) 4) | ((with_reducible refine Yk (t := 24) (p := 273) rfl ?_); refine Yg (t := 24) (p := 273) (v := ?vo272) (w1 := World.setCell w272 ⟨gX, 4, none⟩ (.slice A272 n272 c272)) ?hg ?ho ?hn ?hr ?_; (case ho => rfl); (case hg => rfl); (case hn => rfl); (case hr => first | (go_simp; done) | (go_simp; rfl)); intro W273 hw; have n_ : AZ (AllB w W273 gX gZ (cellsI (wrap64 (m * m')) (wrap64 (wrap64 (st * (p2.length : Int)) + st')) (.slice A105 n105 c105) (.slice A266 n266 c266) (.slice A272 n272 c272) vI) cZ (.slice A105 n105 c105) (.slice A266 n266 c266) (.slice A272 n272 c272) vI nilV nilV (.slice A15 n15 c15) nilV (LAs acc (s * p2.length + t) ++ [acc (s * p2.length + t)]) ((LCs call (s * p2.length + t)) ++ [((List.range 2).map (call (s * p2.length + t)))]) ((LRs kk back (s * p2.length + t)) ++ [((List.range 2).map (fun q => rowL kk (back (s * p2.length + t) q)))]) (LIs inner (s * p2.length + t)) [] [] ((List.range 2).map (inner (s * p2.length + t))) []) := ⟨by rw [hw]; exact All.set bap HO.out 4 _⟩; clear HO hw xC4 xF4; have HO := n_; clear n_; have xC5 := cellC HO.out 5 vI rfl) | ((with_reducible refine gate_builtin (b := .append) (xs := #[.tmp 275, .tmp 277]) rfl ?_); at_builtin; refine wpList_at ?_; refine All.app_I bap (All.alloc HO.out _) (by rfl) (.tmp 275) (.tmp 277) 25 rfl Try.underlying25 bi49 rfl _ rfl (heap_alloc_new _ _) (by simp only [LAs, LCs, LRs, LIs, List.length_append, List.length_cons, List.length_nil, List.length_map, List.length_range]; have := HLI.out; omega) (shI (w := w) ?_); intro A278 n278 c278 w278 ho; clear HO xC5; have HO := AZ.mk ho; clear ho; have xC5 := cellC HO.out 5 vI rfl; have xF5 := bf (All.boxC HO.out) 5) | ((with_reducible refine Yk (t := 25) (p := 279) rfl ?_); refine Yg (t := 25) (p := 279) (v := ?vo278) (w1 := World.setCell w278 ⟨gX, 5, none⟩ (.slice A278 n278 c278)) ?hg ?ho ?hn ?hr ?_; (case ho => rfl); (case hg => rfl); (case hn => rfl); (case hr => first | (go_simp; done) | (go_simp; rfl)); intro W279 hw; have n_ : AZ (AllB w W279 gX gZ (cellsI (wrap64 (m * m')) (wrap64 (wrap64 (st * (p2.length : Int)) + st')) (.slice A105 n105 c105) (.slice A266 n266 c266) (.slice A272 n272 c272) (.slice A278 n278 c278)) cZ (.slice A105 n105 c105) (.slice A266 n266 c266) (.slice A272 n272 c272) (.slice A278 n278 c278) nilV nilV nilV nilV (LAs acc (s * p2.length + t) ++ [acc (s * p2.length + t)]) ((LCs call (s * p2.length + t)) ++ [((List.range 2).map (call (s * p2.length + t)))]) ((LRs kk back (s * p2.length + t)) ++ [((List.range 2).map (fun q => rowL kk (back (s * p2.length + t) q)))]) ((LIs inner (s * p2.length + t)) ++ [((List.range 2).map (inner (s * p2.length + t)))]) [] [] [] []) := ⟨by rw [hw]; exact All.set bap HO.out 5 _⟩; clear HO hw xC5 xF5; have HO := n_; clear n_))
          have n_ := AZ.mk (show AllB w _ gX gZ (cellsI (wrap64 (m * m')) (wrap64 (wrap64 (st * (p2.length : Int)) + st')) (.slice A105 n105 c105) (.slice A266 n266 c266) (.slice A272 n272 c272) (.slice A278 n278 c278)) cZ (.slice A105 n105 c105) (.slice A266 n266 c266) (.slice A272 n272 c272) (.slice A278 n278 c278) nilV nilV nilV nilV (LAs acc ((s * p2.length + t) + 1)) (LCs call ((s * p2.length + t) + 1)) (LRs kk back ((s * p2.length + t) + 1)) (LIs inner ((s * p2.length + t) + 1)) [] [] [] [] by rw [LAs_succ, LCs_succ, LRs_succ, LIs_succ]; exact HO.out)
          clear HO
          have HO := n_
          clear n_
          go_roundg gk1
          case measure => have := HK1.out; omega
          case rel => exact ⟨_, t + 1, _, _, _, _, rfl, ⟨⟨by have h8 := HXT.out; have := HL1.out; have := S2.out.b; rw [bw _ (by omega) (by omega)]; omega, by have := HK1.out; omega, HL1.out⟩, HO.out⟩⟩
     ·have HX := AZ.mk (show p2.length = t by have := HS1.out; omega)
      have c1 : decide (xt < (p2.length : Int)) = false := dF (by have := HXT.out; have := HX.out; omega)
      clear hlt
      have e_ := HX.out
      clear HX
      subst e_
      have n_ := AZ.mk (show AllB w _ gX gZ (cellsI (wrap64 (m * m')) (wrap64 (wrap64 (st * (p2.length : Int)) + st')) vA vC vR vI) cZ vA vC vR vI nilV nilV nilV nilV (LAs acc ((s + 1) * p2.length)) (LCs call ((s + 1) * p2.length)) (LRs kk back ((s + 1) * p2.length)) (LIs inner ((s + 1) * p2.length)) [] [] [] [] by rw [Nat.succ_mul]; exact HO.out)
      clear HO
      have HO := n_
      clear n_
      go_wp2
      go_roundg gk0
      case measure => have := HK0.out; omega
      case rel => exact ⟨_, s + 1, vA, vC, vR, vI, rfl, ⟨⟨by have h8 := HXS.out; have := HL0.out; have := S1.out.b; rw [bw _ (by omega) (by omega)]; omega, by have := HK0.out; omega, HL0.out⟩, HO.out⟩⟩
   ·have HX := AZ.mk (show l2.length = s by have := HS0.out; omega)
    have c1 : decide (xs < (l2.length : Int)) = false := dF (by have := HXS.out; have := HX.out; omega)
    clear hlt
    have e_ := HX.out
    clear HX
    subst e_
    go_wp2_with (first | ((with_reducible refine gate_ (.load 27 (.tmp 9)) rfl ?_); refine load27 rfl 9 rfl (g := gX) rfl (All.boxC HO.out) rfl ?_) | ((with_reducible refine gate_ (.store 27 (.tmp 6) (.tmp 280)) rfl ?_); refine store27 rfl 6 280 rfl (g := gZ) (old := cZ) (cs := (cellsI (wrap64 (m * m')) (wrap64 (wrap64 (st * (p2.length : Int)) + st')) vA vC vR vI)) rfl rfl (All.boxZ HO.out) rfl rfl (cellsI_one _ _ (Reads.own (own_of0 HO.out))) ?_; intro w9 hbx hB hfar))
    refine bodyPost_ret (results_cell_row rfl _ _ gZ 27 (cellsI (wrap64 (m * m')) (wrap64 (wrap64 (st * (p2.length : Int)) + st')) vA vC vR vI) (0, 0) _ rfl hbx Try.underlying27 rfl (by kernel_rfl)) rfl ?_
    exact ⟨vA, vC, vR, vI, rfl, own_out HO.out hfar, hB _ _ (All.blw HO.out) HO.out.2.2.2.1.2.1⟩
theorem pairs_calls (gc gd : Nat) (m st : Int) (a2 : Addr) (c2 : Nat) (l2 : List Bool) (a3 : Addr) (c3 : Nat) (l3 : List (List S47)) (a4 : Addr) (c4 : Nat) (l4 : List (List (List Int))) (a5 : Addr) (c5 : Nat) (l5 : List (List Int)) (m' st' : Int) (b2 : Addr) (d2 : Nat) (p2 : List Bool) (b3 : Addr) (d3 : Nat) (p3 : List (List S47)) (b4 : Addr) (d4 : Nat) (p4 : List (List (List Int))) (b5 : Addr) (d5 : Nat) (p5 : List (List Int)) (mn mm kk : Nat) (w : World)
  (hs1 : Sh mn l2 l3 l4 l5) (hs2 : Sh mm p2 p3 p4 p5) (bc : w.heap[gc]? = some (.cells #[.int .i64 m, .int .i64 st, .slice (some a2) l2.length c2, .slice (some a3) l3.length c3, .slice (some a4) l4.length c4, .slice (some a5) l5.length c5] 27 (0, 0))) (bd : w.heap[gd]? = some (.cells #[.int .i64 m', .int .i64 st', .slice (some b2) p2.length d2, .slice (some b3) p3.length d3, .slice (some b4) p4.length d4, .slice (some b5) p5.length d5] 27 (0, 0)))
  (r2 : Kd.C Kd.bool w (some a2) l2.length l2) (q2 : Kd.C Kd.bool w (some b2) p2.length p2)
  (r3 : Kd.C (Kd.slice 47 k47) w (some a3) l3.length l3) (r4 : Kd.C (Kd.slice 49 (Kd.slice 2 (Kd.int .i64))) w (some a4) l4.length l4) (r5 : Kd.C (Kd.slice 2 (Kd.int .i64)) w (some a5) l5.length l5) (q3 : Kd.C (Kd.slice 47 k47) w (some b3) p3.length p3) (q4 : Kd.C (Kd.slice 49 (Kd.slice 2 (Kd.int .i64))) w (some b4) p4.length p4) (q5 : Kd.C (Kd.slice 2 (Kd.int .i64)) w (some b5) p5.length p5)
  (hm : m = (mn : Int)) (hm' : m' = (mm : Int)) (hkk : kk = mn * mm)
  (acc : Nat → Bool) (call : Nat → Nat → S47) (back : Nat → Nat → Nat → Int) (inner : Nat → Nat → Int)
  (hacc : ∀ s t : Nat, s < l2.length → t < p2.length → acc (s * p2.length + t) = (rdOf false l2 (s : Int) || rdOf false p2 (t : Int)))
  (hcall : ∀ s t q : Nat, s < l2.length → t < p2.length → q < 2 → call (s * p2.length + t) q = ⟨wrap64 (wrap64 ((Zb (Zd l3 (s : Int)) (q : Int)).f0 * (p2.length : Int)) + (Zb (Zd p3 (t : Int)) (q : Int)).f0), wrap64 (wrap64 ((Zb (Zd l3 (s : Int)) (q : Int)).f1 * (mm : Int)) + (Zb (Zd p3 (t : Int)) (q : Int)).f1)⟩)
  (hback : ∀ s t q x y : Nat, s < l2.length → t < p2.length → q < 2 → x < mn → y < mm → back (s * p2.length + t) q (x * mm + y) = wrap64 (wrap64 (rd (rd_L4 (rd_L5 l4 (s : Int)) (q : Int)) (x : Int) * (p2.length : Int)) + rd (rd_L4 (rd_L5 p4 (t : Int)) (q : Int)) (y : Int)))
  (hend : ∀ s t q : Nat, s < l2.length → t < p2.length → q < 2 → back (s * p2.length + t) q (mn * mm) = wrap64 (wrap64 (rd (rd_L4 (rd_L5 l4 (s : Int)) (q : Int)) (mn : Int) * (p2.length : Int)) + rd (rd_L4 (rd_L5 p4 (t : Int)) (q : Int)) (mm : Int)))
  (hinner : ∀ s t q : Nat, s < l2.length → t < p2.length → q < 2 → inner (s * p2.length + t) q = wrap64 (wrap64 (rd (rd_L4 l5 (s : Int)) (q : Int) * (p2.length : Int)) + rd (rd_L4 p5 (t : Int)) (q : Int))) :
  Calls Try.prog 80 #[.pointer (some ⟨gc, 0, none⟩), .pointer (some ⟨gd, 0, none⟩), .bool false] w fun e w' => ∃ vA vC vR vI : Value, e = .returned (.agg (cellsI (wrap64 (m * m')) (wrap64 (wrap64 (st * (p2.length : Int)) + st')) vA vC vR vI)) ∧ OwnC w' w.heap.size vA vC vR vI (LAs acc (l2.length * p2.length)) (LCs call (l2.length * p2.length)) (LRs kk back (l2.length * p2.length)) (LIs inner (l2.length * p2.length)) ∧ Below w.heap.size w w' := by
 obtain ⟨e3, e4, e5, N3, ce3, N4, ce4, N5, ce5, h4, H4, ch4, sk1⟩ := sk_of hs1 r3 r4 r5
 obtain ⟨f3, f4, f5, M3, df3, M4, df4, M5, df5, j4, J4, dj4, sk2⟩ := sk_of hs2 q3 q4 q5
 exact pairs_walk gc gd m st a2 c2 l2 a3 c3 l3 a4 c4 l4 a5 c5 l5 m' st' b2 d2 p2 b3 d3 p3 b4 d4 p4 b5 d5 p5 mn mm kk e3 e4 e5 N3 ce3 N4 ce4 N5 ce5 h4 H4 ch4 f3 f4 f5 M3 df3 M4 df4 M5 df5 j4 J4 dj4 w hs1 hs2 bc bd r2 q2 sk1 sk2 hm hm' hkk acc call back inner hacc hcall hback hend hinner
end Go.Proofs.Ytepkfigcnnfoaaa.P
namespace Go.Proofs.Ytepkfigcnnfoaaa.P
open Go.RowKit Go.Proofs.YtepkfigcnnfoaaaW.PrintWords Go.Proofs.YtepkfigcnnfoaaaW.PrintLast Go.Proofs.YtepkfigcnnfoaaaW.PrintMore
attribute [local go_sem] Zn Zp Zw Zx Zj Zk Zq Zr
def impl_EitherCheckers_1.f (a0 : Bool) (a1 : Bool) : Option (Bool) := if a0 = true then (some true) else (some a1)
theorem impl_EitherCheckers_1.calls (a0 : Bool) (a1 : Bool) (r : Bool) (w : World) (h : impl_EitherCheckers_1.f a0 a1 = some r) :
  Calls Try.prog 83 #[.bool a0, .bool a1] w fun e w' => e = .returned (.bool r) ∧ Drawn0 w w' := by
 have H : (if a0 = true then (some true) else (some a1)) = some r := h
 clear h
 by_cases c3 : a0 = true
 ·subst c3
  have H1 : (some true) = some r := by rw [if_pos rfl] at H; exact H
  clear H
  have H := H1
  clear H1
  obtain rfl := oJ H
  go_enter Try.func83, Try.ntmps83
  go_wp2
  go_ret
  exact ⟨by first | rfl | (simp; done) | (simp [*]; done), by repeat (first | exact Drawn0.refl _ | apply Drawn0.step)⟩
 replace c3 := Bool.eq_false_iff.mpr c3
 subst c3
 have H1 : (some a1) = some r := by rw [if_neg (show ¬ (false = true) by decide)] at H; exact H
 clear H
 have H := H1
 clear H1
 obtain rfl := oJ H
 go_enter Try.func83, Try.ntmps83
 go_wp2
 go_ret
 exact ⟨by first | rfl | (simp; done) | (simp [*]; done), by repeat (first | exact Drawn0.refl _ | apply Drawn0.step)⟩
attribute [local go_sem] Zn Zp Zw Zx Zj Zk Zq Zr
def impl_paired_1_c_2.f (a0 : Int)  (a2_0 : Int) (a2_1 : Int) (l2_2 : List Bool) (l2_3 : List (List (S47))) (l2_4 : List (List (List Int))) (l2_5 : List (List Int)) (a3_0 : Int) (a4_0 : Int) (a4_1 : Int) (l4_2 : List Bool) (l4_3 : List (List (S47))) (l4_4 : List (List (List Int))) (l4_5 : List (List Int)) : Option (Bool) := if a3_0 = 0 then (none) else (if 0 ≤ (wrap64 (Int.tdiv a0 a3_0)) then (if (wrap64 (Int.tdiv a0 a3_0)) < (l2_2.length : Int) then (if 0 ≤ (Int.tmod a0 a3_0) then (if (Int.tmod a0 a3_0) < (l4_2.length : Int) then ((impl_EitherCheckers_1.f (rdOf false l2_2 (wrap64 (Int.tdiv a0 a3_0))) (rdOf false l4_2 (Int.tmod a0 a3_0))).bind fun t789 => (some t789)) else (none)) else (none)) else (none)) else (none))
def impl_paired_1_c_2.T1 : Bool × List (List Nat × List Nat) := (true, [([], []), ([], []), ([1], [1]), ([], []), ([], []), ([3, 4], [3, 4]), ([2, 5], [2, 5]), ([6], [6]), ([], []), ([8], [8]), ([], []), ([], []), ([10, 11], [10, 11]), ([9, 12], [9, 12]), ([13], [13]), ([0, 7, 14], [0, 7, 14]), ([15, 15, 0, 1, 2, 3, 4, 5, 6, 7, 8, 9, 10, 11, 12, 13, 14, 15], [15])])
def impl_paired_1_c_2.B1 : List Nat := [0, 0, 2, 0, 0, 24, 62, 126, 0, 256, 0, 0, 3072, 7936, 16128, 32767, 65535]
theorem impl_paired_1_c_2.tab1 : rtab .any (opsOf Try.f110 1) = impl_paired_1_c_2.T1 := by kernel_rfl
theorem impl_paired_1_c_2.bits1 : waitsOk impl_paired_1_c_2.T1.2 impl_paired_1_c_2.B1 = true := by kernel_rfl
def impl_paired_1_c_2.cz0 : List Nat := [1, 3, 8, 10, 400, 402, 404, 5, 6, 407, 409, 411, 12, 13, 414]
theorem impl_paired_1_c_2.calls (a0 : Int) (g1_ : Nat) (g2_ : Nat) (a2_0 : Int) (a2_1 : Int) (A2_2 : Option Addr) (c2_2 : Nat) (l2_2 : List Bool) (A2_3 : Option Addr) (c2_3 : Nat) (l2_3 : List (List (S47))) (A2_4 : Option Addr) (c2_4 : Nat) (l2_4 : List (List (List Int))) (A2_5 : Option Addr) (c2_5 : Nat) (l2_5 : List (List Int)) (g3_ : Nat) (a3_0 : Int) (g4_ : Nat) (a4_0 : Int) (a4_1 : Int) (A4_2 : Option Addr) (c4_2 : Nat) (l4_2 : List Bool) (A4_3 : Option Addr) (c4_3 : Nat) (l4_3 : List (List (S47))) (A4_4 : Option Addr) (c4_4 : Nat) (l4_4 : List (List (List Int))) (A4_5 : Option Addr) (c4_5 : Nat) (l4_5 : List (List Int)) (r : Bool) (w : World) (hr2_2 : Kd.C Kd.bool w A2_2 l2_2.length l2_2) (hc2_2 : l2_2.length ≤ c2_2) (hr2_3 : Kd.C (Kd.slice 47 k47) w A2_3 l2_3.length l2_3) (hc2_3 : l2_3.length ≤ c2_3) (hr2_4 : Kd.C (Kd.slice 49 (Kd.slice 2 (Kd.int .i64))) w A2_4 l2_4.length l2_4) (hc2_4 : l2_4.length ≤ c2_4) (hr2_5 : Kd.C (Kd.slice 2 (Kd.int .i64)) w A2_5 l2_5.length l2_5) (hc2_5 : l2_5.length ≤ c2_5) (hr4_2 : Kd.C Kd.bool w A4_2 l4_2.length l4_2) (hc4_2 : l4_2.length ≤ c4_2) (hr4_3 : Kd.C (Kd.slice 47 k47) w A4_3 l4_3.length l4_3) (hc4_3 : l4_3.length ≤ c4_3) (hr4_4 : Kd.C (Kd.slice 49 (Kd.slice 2 (Kd.int .i64))) w A4_4 l4_4.length l4_4) (hc4_4 : l4_4.length ≤ c4_4) (hr4_5 : Kd.C (Kd.slice 2 (Kd.int .i64)) w A4_5 l4_5.length l4_5) (hc4_5 : l4_5.length ≤ c4_5) (hbk1_0 : w.heap[g1_]? = some (.cells #[.func (.func 83) #[] #[]] 81 (0, 0))) (hbk2_0 : w.heap[g2_]? = some (.cells #[.int .i64 a2_0, .int .i64 a2_1, .slice A2_2 l2_2.length c2_2, .slice A2_3 l2_3.length c2_3, .slice A2_4 l2_4.length c2_4, .slice A2_5 l2_5.length c2_5] 27 (0, 0))) (hbk3_0 : w.heap[g3_]? = some (.cells #[.int .i64 a3_0] 2 (0, 0))) (hbk4_0 : w.heap[g4_]? = some (.cells #[.int .i64 a4_0, .int .i64 a4_1, .slice A4_2 l4_2.length c4_2, .slice A4_3 l4_3.length c4_3, .slice A4_4 l4_4.length c4_4, .slice A4_5 l4_5.length c4_5] 27 (0, 0))) (h : impl_paired_1_c_2.f a0 a2_0 a2_1 l2_2 l2_3 l2_4 l2_5 a3_0 a4_0 a4_1 l4_2 l4_3 l4_4 l4_5 = some r) :
  Calls Try.prog 110 #[.int .i64 a0, .pointer (some ⟨g1_, 0, none⟩), .pointer (some ⟨g2_, 0, none⟩), .pointer (some ⟨g3_, 0, none⟩), .pointer (some ⟨g4_, 0, none⟩)] w fun e w' => e = .returned (.bool r) ∧ Below w.heap.size w w' := by
 have HR2_2 := AZ.mk hr2_2
 have HC2_2 := AZ.mk hc2_2
 clear hr2_2 hc2_2
 have HR2_3 := AZ.mk hr2_3
 have HC2_3 := AZ.mk hc2_3
 clear hr2_3 hc2_3
 have HR2_4 := AZ.mk hr2_4
 have HC2_4 := AZ.mk hc2_4
 clear hr2_4 hc2_4
 have HR2_5 := AZ.mk hr2_5
 have HC2_5 := AZ.mk hc2_5
 clear hr2_5 hc2_5
 have HR4_2 := AZ.mk hr4_2
 have HC4_2 := AZ.mk hc4_2
 clear hr4_2 hc4_2
 have HR4_3 := AZ.mk hr4_3
 have HC4_3 := AZ.mk hc4_3
 clear hr4_3 hc4_3
 have HR4_4 := AZ.mk hr4_4
 have HC4_4 := AZ.mk hc4_4
 clear hr4_4 hc4_4
 have HR4_5 := AZ.mk hr4_5
 have HC4_5 := AZ.mk hc4_5
 clear hr4_5 hc4_5
 have BK1 := AZ.mk hbk1_0
 clear hbk1_0
 have BK2 := AZ.mk hbk2_0
 clear hbk2_0
 have BK3 := AZ.mk hbk3_0
 clear hbk3_0
 have BK4 := AZ.mk hbk4_0
 clear hbk4_0
 have HB := AZ.mk (Below.refl w.heap.size w)
 have H : (if a3_0 = 0 then (none) else (if 0 ≤ (wrap64 (Int.tdiv a0 a3_0)) then (if (wrap64 (Int.tdiv a0 a3_0)) < (l2_2.length : Int) then (if 0 ≤ (Int.tmod a0 a3_0) then (if (Int.tmod a0 a3_0) < (l4_2.length : Int) then ((impl_EitherCheckers_1.f (rdOf false l2_2 (wrap64 (Int.tdiv a0 a3_0))) (rdOf false l4_2 (Int.tmod a0 a3_0))).bind fun t789 => (some t789)) else (none)) else (none)) else (none)) else (none))) = some r := h
 clear h
 by_cases c6h : a3_0 = 0
 ·rw [if_pos c6h] at H
  exact absurd H (by simp)
 rw [if_neg c6h] at H
 have c6b0 : (a3_0 == 0) = false := beq_eq_false_iff_ne.mpr c6h
 have c6b1 : (a3_0 != 0) = true := bne_iff_ne.mpr c6h
 obtain ⟨ji7, hji7⟩ : ∃ j_ : Int, (wrap64 (Int.tdiv a0 a3_0)) = j_ := ⟨_, rfl⟩
 replace H : (if 0 ≤ (ji7) then (if (ji7) < (l2_2.length : Int) then (if 0 ≤ (Int.tmod a0 a3_0) then (if (Int.tmod a0 a3_0) < (l4_2.length : Int) then ((impl_EitherCheckers_1.f (rdOf false l2_2 (ji7)) (rdOf false l4_2 (Int.tmod a0 a3_0))).bind fun t789 => (some t789)) else (none)) else (none)) else (none)) else (none)) = some r := by first | (rw [hji7] at H; exact H) | (simp only [hji7] at H ⊢; exact H)
 have hji7w : (IntKind.i64.wrap (Int.tdiv a0 a3_0)) = ji7 := (i64_w _).trans hji7
 by_cases c8 : 0 ≤ (ji7)
 rotate_left
 ·rw [if_neg c8] at H
  exact absurd H (by simp)
 rw [if_pos c8] at H
 have c8b0 : decide (0 ≤ (ji7)) = true := dT c8
 clear c8
 by_cases c9 : (ji7) < (l2_2.length : Int)
 rotate_left
 ·rw [if_neg c9] at H
  exact absurd H (by simp)
 rw [if_pos c9] at H
 have c9b0 : decide ((ji7) < (l2_2.length : Int)) = true := dT c9
 clear c9
 obtain ⟨ji10, hji10⟩ : ∃ j_ : Int, (Int.tmod a0 a3_0) = j_ := ⟨_, rfl⟩
 replace H : (if 0 ≤ (ji10) then (if (ji10) < (l4_2.length : Int) then ((impl_EitherCheckers_1.f (rdOf false l2_2 (ji7)) (rdOf false l4_2 (ji10))).bind fun t789 => (some t789)) else (none)) else (none)) = some r := by first | (rw [hji10] at H; exact H) | (simp only [hji10] at H ⊢; exact H)
 by_cases c11 : 0 ≤ (ji10)
 rotate_left
 ·rw [if_neg c11] at H
  exact absurd H (by simp)
 rw [if_pos c11] at H
 have c11b0 : decide (0 ≤ (ji10)) = true := dT c11
 clear c11
 by_cases c12 : (ji10) < (l4_2.length : Int)
 rotate_left
 ·rw [if_neg c12] at H
  exact absurd H (by simp)
 rw [if_pos c12] at H
 have c12b0 : decide ((ji10) < (l4_2.length : Int)) = true := dT c12
 clear c12
 replace H := Option.bind_eq_some_iff.mp H
 obtain ⟨t789, A130, H⟩ := H
 replace H : (some t789) = some r := H
 have A13 := AZ.mk A130
 clear A130
 obtain rfl := oJ H
 go_enter Try.func110, Try.ntmps110
 try go_wp2
 have n0_ := AZ.mk (bd_ BK1.out)
 have n1_ := AZ.mk (bd_ BK2.out)
 have n2_ := AZ.mk (bd_ BK3.out)
 have n3_ := AZ.mk (bd_ BK4.out)
 have n4_ := AZ.mk (pD HB.out)
 clear BK1
 clear BK2
 clear BK3
 clear BK4
 clear HB
 have BK1 := n0_
 have BK2 := n1_
 have BK3 := n2_
 have BK4 := n3_
 have HB := n4_
 clear n0_ n1_ n2_ n3_ n4_
 have p787 : 0 ≤ ((ji7) : Int) := oT (by first | (with_reducible assumption) | assumption)
 have q787 : (ji7) < (l2_2.length : Int) := oT (by first | (with_reducible assumption) | assumption)
 obtain ⟨ad787, e787, hx787_0⟩ := Kd.at_bool HR2_2.out (ji7) p787 q787
 have hw787_0 := hx787_0
 cases e787
 replace hx787_0 := (HB.out.cell (World.block_lt_of_cell? w _ hx787_0)).trans hx787_0
 replace p787 := eq_true p787
 replace q787 := eq_true q787
 have p788 : 0 ≤ ((ji10) : Int) := oT (by first | (with_reducible assumption) | assumption)
 have q788 : (ji10) < (l4_2.length : Int) := oT (by first | (with_reducible assumption) | assumption)
 obtain ⟨ad788, e788, hx788_0⟩ := Kd.at_bool HR4_2.out (ji10) p788 q788
 have hw788_0 := hx788_0
 cases e788
 replace hx788_0 := (HB.out.cell (World.block_lt_of_cell? w _ hx788_0)).trans hx788_0
 replace p788 := eq_true p788
 replace q788 := eq_true q788
 refine start_ (n := 17) (S := fun w' => w'.cell? ⟨g1_, 0, none⟩ = some (.func (.func 83) #[] #[]) ∧ w'.cell? ⟨g2_, 0, none⟩ = some (.int .i64 a2_0) ∧ w'.cell? ⟨g2_, 1, none⟩ = some (.int .i64 a2_1) ∧ w'.cell? ⟨g2_, 2, none⟩ = some (.slice (some ad787) l2_2.length c2_2) ∧ w'.cell? ⟨g2_, 3, none⟩ = some (.slice A2_3 l2_3.length c2_3) ∧ w'.cell? ⟨g2_, 4, none⟩ = some (.slice A2_4 l2_4.length c2_4) ∧ w'.cell? ⟨g2_, 5, none⟩ = some (.slice A2_5 l2_5.length c2_5) ∧ w'.cell? ⟨g3_, 0, none⟩ = some (.int .i64 a3_0) ∧ w'.cell? ⟨g4_, 0, none⟩ = some (.int .i64 a4_0) ∧ w'.cell? ⟨g4_, 1, none⟩ = some (.int .i64 a4_1) ∧ w'.cell? ⟨g4_, 2, none⟩ = some (.slice (some ad788) l4_2.length c4_2) ∧ w'.cell? ⟨g4_, 3, none⟩ = some (.slice A4_3 l4_3.length c4_3) ∧ w'.cell? ⟨g4_, 4, none⟩ = some (.slice A4_4 l4_4.length c4_4) ∧ w'.cell? ⟨g4_, 5, none⟩ = some (.slice A4_5 l4_5.length c4_5) ∧ w'.cell? (ad787.add ((ji7)).toNat) = some (.bool (rdOf false l2_2 (ji7))) ∧ w'.cell? (ad788.add ((ji10)).toNat) = some (.bool (rdOf false l4_2 (ji10)))) (ds := []) (bz 17 0) (by kernel_rfl) rfl rfl ⟨(bc BK1.out 0).trans rfl, (bc BK2.out 0).trans rfl, (bc BK2.out 1).trans rfl, (bc BK2.out 2).trans rfl, (bc BK2.out 3).trans rfl, (bc BK2.out 4).trans rfl, (bc BK2.out 5).trans rfl, (bc BK3.out 0).trans rfl, (bc BK4.out 0).trans rfl, (bc BK4.out 1).trans rfl, (bc BK4.out 2).trans rfl, (bc BK4.out 3).trans rfl, (bc BK4.out 4).trans rfl, (bc BK4.out 5).trans rfl, ((HB.out.cell (World.block_lt_of_cell? w _ hw787_0)).trans hw787_0), ((HB.out.cell (World.block_lt_of_cell? w _ hw788_0)).trans hw788_0)⟩ (fun hHeld => ?_); refine Yh impl_paired_1_c_2.tab1 impl_paired_1_c_2.bits1 (fun HT_ HW_ => ?_)
 generalize w.drew = w14 at BK1 BK2 BK3 BK4 HB hx787_0 hx788_0 hHeld ⊢
 iterate 15 (first | (refine pz_ HT_ impl_paired_1_c_2.cz0 rfl rfl rfl (v := ?_) (a' := ?_) (by kernel_rfl) (fun _ _ _ h => h) (Or.inl ⟨by rfl, ?_⟩) ?_ ?_; rotate_left; (intro w'; go_simp; with_reducible rfl); rotate_left; (simp only [Act.put, sA, sB, sC, i64_w, i32_w]; rfl)) | (refine tz_ HT_ HW_ impl_paired_1_c_2.cz0 rfl rfl rfl (v := ?_) (a' := ?_) (by kernel_rfl) (fun _ _ _ h => h) (Or.inl ⟨by rfl, ?_⟩) hHeld ?_ ?_; rotate_left; (rintro w' ⟨s0, s1, s2, s3, s4, s5, s6, s7, s8, s9, s10, s11, s12, s13, s14, s15⟩; go_simp; with_reducible rfl); rotate_left; (simp only [Act.put, sA, sB, sC, i64_w, i32_w]; rfl)))
 refine one_ (i := 15) (N := some 22) (bz 17 65535) rfl rfl (one_of HT_.out (by kernel_rfl)) (by decide) (fun K hK => ?_)
 refine goesV_ Try.func83 (by kernel_rfl) rfl #[.bool (rdOf false l2_2 (ji7)), .bool (rdOf false l4_2 (ji10))] #[.bool (rdOf false l2_2 (ji7)), .bool (rdOf false l4_2 (ji10))] (by rfl) rfl rfl (by rfl) (by (try simp only [mA, mB, mC]); first | done | (simp only [hji10, hji7]; rfl) | rfl | (simp only [lD, lT]; rfl)) (by rfl) ?_
 with_reducible refine (impl_EitherCheckers_1.calls (rdOf false l2_2 (ji7)) (rdOf false l4_2 (ji10)) t789 _ A13.out).mono ?_
 rintro e w' ⟨rfl, ⟨nd, rfl⟩⟩
 refine ⟨_, rfl, ?_⟩
 refine hK.out _ _ ⟨(bc BK1.out 0).trans rfl, (bc BK2.out 0).trans rfl, (bc BK2.out 1).trans rfl, (bc BK2.out 2).trans rfl, (bc BK2.out 3).trans rfl, (bc BK2.out 4).trans rfl, (bc BK2.out 5).trans rfl, (bc BK3.out 0).trans rfl, (bc BK4.out 0).trans rfl, (bc BK4.out 1).trans rfl, (bc BK4.out 2).trans rfl, (bc BK4.out 3).trans rfl, (bc BK4.out 4).trans rfl, (bc BK4.out 5).trans rfl, ((HB.out.cell (World.block_lt_of_cell? w _ hw787_0)).trans hw787_0), ((HB.out.cell (World.block_lt_of_cell? w _ hw788_0)).trans hw788_0)⟩ (fun hHeld => ?_)
 clear hK K
 refine norm_ (a' := ?_) ?_ ?_
 rotate_left
 ·show Act.put _ (some 22) _ = _
  simp only [Act.put, sA, sB, sC, i64_w, i32_w]
  rfl
 refine Ya (i := 16) (N := some 6) (v := ?_) (a' := ?_) (bz 17 131071) rfl rfl (Zm HT_.out (by kernel_rfl)) (fun _ _ _ h => h) (Or.inl ⟨by rfl, ?_⟩) ?_ ?_
 rotate_left
 ·intro w'
  go_simp
  with_reducible rfl
 rotate_left
 ·simp only [Act.put, sA, sB, sC, i64_w, i32_w]
  rfl
 refine done_ (done_of HT_.out (by kernel_rfl)) ?_
 try go_wp2
 go_ret
 exact ⟨by first | rfl | (simp [Ze, Zf] <;> rfl) | (simp only [← hji7, ← hji10]; first | rfl | (simp [Ze, Zf] <;> rfl)) | (simp [*, Ze, Zf] <;> rfl), by repeat (first | (with_reducible first | exact HB.out | apply pA | apply pN | apply pD | refine pS ?_ GE1.out | refine pS ?_ GE2.out | refine pS ?_ GE3.out | refine pS ?_ GE4.out) | exact HB.out)⟩
attribute [local go_sem] Zn Zp Zw Zx Zj Zk Zq Zr
def impl_paired_3_c.f (a0 : Int) (a1 : Int) (a2 : Int) (a3_0 : Int) (a4_0 : Int) (a4_1 : Int) (l4_2 : List Bool) (l4_3 : List (List (S47))) (l4_4 : List (List (List Int))) (l4_5 : List (List Int)) (a5_0 : Int) (a6_0 : Int) (a6_1 : Int) (l6_2 : List Bool) (l6_3 : List (List (S47))) (l6_4 : List (List (List Int))) (l6_5 : List (List Int)) : Option (Int) := if a3_0 = 0 then (none) else (if a2 = (wrap64 (a4_0 * a3_0)) then (if a5_0 = 0 then (none) else (if 0 ≤ (wrap64 (Int.tdiv a0 a5_0)) then (if (wrap64 (Int.tdiv a0 a5_0)) < (l4_4.length : Int) then (if 0 ≤ a1 then (if a1 < ((rd_L5 l4_4 (wrap64 (Int.tdiv a0 a5_0))).length : Int) then (if 0 ≤ a4_0 then (if a4_0 < ((rd_L4 (rd_L5 l4_4 (wrap64 (Int.tdiv a0 a5_0))) a1).length : Int) then (if 0 ≤ (Int.tmod a0 a5_0) then (if (Int.tmod a0 a5_0) < (l6_4.length : Int) then (if a1 < ((rd_L5 l6_4 (Int.tmod a0 a5_0)).length : Int) then (if 0 ≤ a3_0 then (if a3_0 < ((rd_L4 (rd_L5 l6_4 (Int.tmod a0 a5_0)) a1).length : Int) then (some (wrap64 ((wrap64 ((rd (rd_L4 (rd_L5 l4_4 (wrap64 (Int.tdiv a0 a5_0))) a1) a4_0) * a5_0)) + (rd (rd_L4 (rd_L5 l6_4 (Int.tmod a0 a5_0)) a1) a3_0)))) else (none)) else (none)) else (none)) else (none)) else (none)) else (none)) else (none)) else (none)) else (none)) else (none)) else (none))) else (if a5_0 = 0 then (none) else (if 0 ≤ (wrap64 (Int.tdiv a0 a5_0)) then (if (wrap64 (Int.tdiv a0 a5_0)) < (l4_4.length : Int) then (if 0 ≤ a1 then (if a1 < ((rd_L5 l4_4 (wrap64 (Int.tdiv a0 a5_0))).length : Int) then (if 0 ≤ (wrap64 (Int.tdiv a2 a3_0)) then (if (wrap64 (Int.tdiv a2 a3_0)) < ((rd_L4 (rd_L5 l4_4 (wrap64 (Int.tdiv a0 a5_0))) a1).length : Int) then (if 0 ≤ (Int.tmod a0 a5_0) then (if (Int.tmod a0 a5_0) < (l6_4.length : Int) then (if a1 < ((rd_L5 l6_4 (Int.tmod a0 a5_0)).length : Int) then (if 0 ≤ (Int.tmod a2 a3_0) then (if (Int.tmod a2 a3_0) < ((rd_L4 (rd_L5 l6_4 (Int.tmod a0 a5_0)) a1).length : Int) then (some (wrap64 ((wrap64 ((rd (rd_L4 (rd_L5 l4_4 (wrap64 (Int.tdiv a0 a5_0))) a1) (wrap64 (Int.tdiv a2 a3_0))) * a5_0)) + (rd (rd_L4 (rd_L5 l6_4 (Int.tmod a0 a5_0)) a1) (Int.tmod a2 a3_0))))) else (none)) else (none)) else (none)) else (none)) else (none)) else (none)) else (none)) else (none)) else (none)) else (none)) else (none))))
theorem impl_paired_3_c.calls (a0 : Int) (a1 : Int) (a2 : Int) (g3_ : Nat) (a3_0 : Int) (g4_ : Nat) (a4_0 : Int) (a4_1 : Int) (A4_2 : Option Addr) (c4_2 : Nat) (l4_2 : List Bool) (A4_3 : Option Addr) (c4_3 : Nat) (l4_3 : List (List (S47))) (A4_4 : Option Addr) (c4_4 : Nat) (l4_4 : List (List (List Int))) (A4_5 : Option Addr) (c4_5 : Nat) (l4_5 : List (List Int)) (g5_ : Nat) (a5_0 : Int) (g6_ : Nat) (a6_0 : Int) (a6_1 : Int) (A6_2 : Option Addr) (c6_2 : Nat) (l6_2 : List Bool) (A6_3 : Option Addr) (c6_3 : Nat) (l6_3 : List (List (S47))) (A6_4 : Option Addr) (c6_4 : Nat) (l6_4 : List (List (List Int))) (A6_5 : Option Addr) (c6_5 : Nat) (l6_5 : List (List Int)) (r : Int) (w : World) (hr4_2 : Kd.C Kd.bool w A4_2 l4_2.length l4_2) (hc4_2 : l4_2.length ≤ c4_2) (hr4_3 : Kd.C (Kd.slice 47 k47) w A4_3 l4_3.length l4_3) (hc4_3 : l4_3.length ≤ c4_3) (hr4_4 : Kd.C (Kd.slice 49 (Kd.slice 2 (Kd.int .i64))) w A4_4 l4_4.length l4_4) (hc4_4 : l4_4.length ≤ c4_4) (hr4_5 : Kd.C (Kd.slice 2 (Kd.int .i64)) w A4_5 l4_5.length l4_5) (hc4_5 : l4_5.length ≤ c4_5) (hr6_2 : Kd.C Kd.bool w A6_2 l6_2.length l6_2) (hc6_2 : l6_2.length ≤ c6_2) (hr6_3 : Kd.C (Kd.slice 47 k47) w A6_3 l6_3.length l6_3) (hc6_3 : l6_3.length ≤ c6_3) (hr6_4 : Kd.C (Kd.slice 49 (Kd.slice 2 (Kd.int .i64))) w A6_4 l6_4.length l6_4) (hc6_4 : l6_4.length ≤ c6_4) (hr6_5 : Kd.C (Kd.slice 2 (Kd.int .i64)) w A6_5 l6_5.length l6_5) (hc6_5 : l6_5.length ≤ c6_5) (hbk3_0 : w.heap[g3_]? = some (.cells #[.int .i64 a3_0] 2 (0, 0))) (hbk4_0 : w.heap[g4_]? = some (.cells #[.int .i64 a4_0, .int .i64 a4_1, .slice A4_2 l4_2.length c4_2, .slice A4_3 l4_3.length c4_3, .slice A4_4 l4_4.length c4_4, .slice A4_5 l4_5.length c4_5] 27 (0, 0))) (hbk5_0 : w.heap[g5_]? = some (.cells #[.int .i64 a5_0] 2 (0, 0))) (hbk6_0 : w.heap[g6_]? = some (.cells #[.int .i64 a6_0, .int .i64 a6_1, .slice A6_2 l6_2.length c6_2, .slice A6_3 l6_3.length c6_3, .slice A6_4 l6_4.length c6_4, .slice A6_5 l6_5.length c6_5] 27 (0, 0))) (h : impl_paired_3_c.f a0 a1 a2 a3_0 a4_0 a4_1 l4_2 l4_3 l4_4 l4_5 a5_0 a6_0 a6_1 l6_2 l6_3 l6_4 l6_5 = some r) :
  Calls Try.prog 112 #[.int .i64 a0, .int .i64 a1, .int .i64 a2, .pointer (some ⟨g3_, 0, none⟩), .pointer (some ⟨g4_, 0, none⟩), .pointer (some ⟨g5_, 0, none⟩), .pointer (some ⟨g6_, 0, none⟩)] w fun e w' => e = .returned (.int .i64 r) ∧ Drawn0 w w' := by
 have HR4_2 := AZ.mk hr4_2
 have HC4_2 := AZ.mk hc4_2
 clear hr4_2 hc4_2
 have HR4_3 := AZ.mk hr4_3
 have HC4_3 := AZ.mk hc4_3
 clear hr4_3 hc4_3
 have HR4_4 := AZ.mk hr4_4
 have HC4_4 := AZ.mk hc4_4
 clear hr4_4 hc4_4
 have HR4_5 := AZ.mk hr4_5
 have HC4_5 := AZ.mk hc4_5
 clear hr4_5 hc4_5
 have HR6_2 := AZ.mk hr6_2
 have HC6_2 := AZ.mk hc6_2
 clear hr6_2 hc6_2
 have HR6_3 := AZ.mk hr6_3
 have HC6_3 := AZ.mk hc6_3
 clear hr6_3 hc6_3
 have HR6_4 := AZ.mk hr6_4
 have HC6_4 := AZ.mk hc6_4
 clear hr6_4 hc6_4
 have HR6_5 := AZ.mk hr6_5
 have HC6_5 := AZ.mk hc6_5
 clear hr6_5 hc6_5
 have BK3 := AZ.mk hbk3_0
 clear hbk3_0
 have BK4 := AZ.mk hbk4_0
 clear hbk4_0
 have BK5 := AZ.mk hbk5_0
 clear hbk5_0
 have BK6 := AZ.mk hbk6_0
 clear hbk6_0
 have H : (if a3_0 = 0 then (none) else (if a2 = (wrap64 (a4_0 * a3_0)) then (if a5_0 = 0 then (none) else (if 0 ≤ (wrap64 (Int.tdiv a0 a5_0)) then (if (wrap64 (Int.tdiv a0 a5_0)) < (l4_4.length : Int) then (if 0 ≤ a1 then (if a1 < ((rd_L5 l4_4 (wrap64 (Int.tdiv a0 a5_0))).length : Int) then (if 0 ≤ a4_0 then (if a4_0 < ((rd_L4 (rd_L5 l4_4 (wrap64 (Int.tdiv a0 a5_0))) a1).length : Int) then (if 0 ≤ (Int.tmod a0 a5_0) then (if (Int.tmod a0 a5_0) < (l6_4.length : Int) then (if a1 < ((rd_L5 l6_4 (Int.tmod a0 a5_0)).length : Int) then (if 0 ≤ a3_0 then (if a3_0 < ((rd_L4 (rd_L5 l6_4 (Int.tmod a0 a5_0)) a1).length : Int) then (some (wrap64 ((wrap64 ((rd (rd_L4 (rd_L5 l4_4 (wrap64 (Int.tdiv a0 a5_0))) a1) a4_0) * a5_0)) + (rd (rd_L4 (rd_L5 l6_4 (Int.tmod a0 a5_0)) a1) a3_0)))) else (none)) else (none)) else (none)) else (none)) else (none)) else (none)) else (none)) else (none)) else (none)) else (none)) else (none))) else (if a5_0 = 0 then (none) else (if 0 ≤ (wrap64 (Int.tdiv a0 a5_0)) then (if (wrap64 (Int.tdiv a0 a5_0)) < (l4_4.length : Int) then (if 0 ≤ a1 then (if a1 < ((rd_L5 l4_4 (wrap64 (Int.tdiv a0 a5_0))).length : Int) then (if 0 ≤ (wrap64 (Int.tdiv a2 a3_0)) then (if (wrap64 (Int.tdiv a2 a3_0)) < ((rd_L4 (rd_L5 l4_4 (wrap64 (Int.tdiv a0 a5_0))) a1).length : Int) then (if 0 ≤ (Int.tmod a0 a5_0) then (if (Int.tmod a0 a5_0) < (l6_4.length : Int) then (if a1 < ((rd_L5 l6_4 (Int.tmod a0 a5_0)).length : Int) then (if 0 ≤ (Int.tmod a2 a3_0) then (if (Int.tmod a2 a3_0) < ((rd_L4 (rd_L5 l6_4 (Int.tmod a0 a5_0)) a1).length : Int) then (some (wrap64 ((wrap64 ((rd (rd_L4 (rd_L5 l4_4 (wrap64 (Int.tdiv a0 a5_0))) a1) (wrap64 (Int.tdiv a2 a3_0))) * a5_0)) + (rd (rd_L4 (rd_L5 l6_4 (Int.tmod a0 a5_0)) a1) (Int.tmod a2 a3_0))))) else (none)) else (none)) else (none)) else (none)) else (none)) else (none)) else (none)) else (none)) else (none)) else (none)) else (none))))) = some r := h
 clear h
 by_cases c8 : a3_0 = 0
 ·rw [if_pos c8] at H
  exact absurd H (by simp)
 rw [if_neg c8] at H
 have c8b0 : (a3_0 == 0) = false := beq_eq_false_iff_ne.mpr c8
 have c8b1 : (a3_0 != 0) = true := bne_iff_ne.mpr c8
 by_cases c9 : a2 = (wrap64 (a4_0 * a3_0))
 ·rw [if_pos c9] at H
  have c9b0 : (a2 == (wrap64 (a4_0 * a3_0))) = true := beq_iff_eq.mpr c9
  have c9b1 : (a2 != (wrap64 (a4_0 * a3_0))) = false := bne_eq_false_iff_eq.mpr c9
  clear c9
  by_cases c10 : a5_0 = 0
  ·rw [if_pos c10] at H
   exact absurd H (by simp)
  rw [if_neg c10] at H
  have c10b0 : (a5_0 == 0) = false := beq_eq_false_iff_ne.mpr c10
  have c10b1 : (a5_0 != 0) = true := bne_iff_ne.mpr c10
  obtain ⟨ji11, hji11⟩ : ∃ j_ : Int, (wrap64 (Int.tdiv a0 a5_0)) = j_ := ⟨_, rfl⟩
  replace H : (if 0 ≤ (ji11) then (if (ji11) < (l4_4.length : Int) then (if 0 ≤ a1 then (if a1 < ((rd_L5 l4_4 (ji11)).length : Int) then (if 0 ≤ a4_0 then (if a4_0 < ((rd_L4 (rd_L5 l4_4 (ji11)) a1).length : Int) then (if 0 ≤ (Int.tmod a0 a5_0) then (if (Int.tmod a0 a5_0) < (l6_4.length : Int) then (if a1 < ((rd_L5 l6_4 (Int.tmod a0 a5_0)).length : Int) then (if 0 ≤ a3_0 then (if a3_0 < ((rd_L4 (rd_L5 l6_4 (Int.tmod a0 a5_0)) a1).length : Int) then (some (wrap64 ((wrap64 ((rd (rd_L4 (rd_L5 l4_4 (ji11)) a1) a4_0) * a5_0)) + (rd (rd_L4 (rd_L5 l6_4 (Int.tmod a0 a5_0)) a1) a3_0)))) else (none)) else (none)) else (none)) else (none)) else (none)) else (none)) else (none)) else (none)) else (none)) else (none)) else (none)) = some r := by first | (rw [hji11] at H; exact H) | (simp only [hji11] at H ⊢; exact H)
  have hji11w : (IntKind.i64.wrap (Int.tdiv a0 a5_0)) = ji11 := (i64_w _).trans hji11
  by_cases c12 : 0 ≤ (ji11)
  rotate_left
  ·rw [if_neg c12] at H
   exact absurd H (by simp)
  rw [if_pos c12] at H
  have c12b0 : decide (0 ≤ (ji11)) = true := dT c12
  clear c12
  by_cases c13 : (ji11) < (l4_4.length : Int)
  rotate_left
  ·rw [if_neg c13] at H
   exact absurd H (by simp)
  rw [if_pos c13] at H
  have c13b0 : decide ((ji11) < (l4_4.length : Int)) = true := dT c13
  clear c13
  by_cases c14 : 0 ≤ a1
  rotate_left
  ·rw [if_neg c14] at H
   exact absurd H (by simp)
  rw [if_pos c14] at H
  have c14b0 : decide (0 ≤ a1) = true := dT c14
  clear c14
  by_cases c15 : a1 < ((rd_L5 l4_4 (ji11)).length : Int)
  rotate_left
  ·rw [if_neg c15] at H
   exact absurd H (by simp)
  rw [if_pos c15] at H
  have c15b0 : decide (a1 < ((rd_L5 l4_4 (ji11)).length : Int)) = true := dT c15
  clear c15
  by_cases c16 : 0 ≤ a4_0
  rotate_left
  ·rw [if_neg c16] at H
   exact absurd H (by simp)
  rw [if_pos c16] at H
  have c16b0 : decide (0 ≤ a4_0) = true := dT c16
  clear c16
  by_cases c17 : a4_0 < ((rd_L4 (rd_L5 l4_4 (ji11)) a1).length : Int)
  rotate_left
  ·rw [if_neg c17] at H
   exact absurd H (by simp)
  rw [if_pos c17] at H
  have c17b0 : decide (a4_0 < ((rd_L4 (rd_L5 l4_4 (ji11)) a1).length : Int)) = true := dT c17
  clear c17
  obtain ⟨ji18, hji18⟩ : ∃ j_ : Int, (Int.tmod a0 a5_0) = j_ := ⟨_, rfl⟩
  replace H : (if 0 ≤ (ji18) then (if (ji18) < (l6_4.length : Int) then (if a1 < ((rd_L5 l6_4 (ji18)).length : Int) then (if 0 ≤ a3_0 then (if a3_0 < ((rd_L4 (rd_L5 l6_4 (ji18)) a1).length : Int) then (some (wrap64 ((wrap64 ((rd (rd_L4 (rd_L5 l4_4 (ji11)) a1) a4_0) * a5_0)) + (rd (rd_L4 (rd_L5 l6_4 (ji18)) a1) a3_0)))) else (none)) else (none)) else (none)) else (none)) else (none)) = some r := by first | (rw [hji18] at H; exact H) | (simp only [hji18] at H ⊢; exact H)
  by_cases c19 : 0 ≤ (ji18)
  rotate_left
  ·rw [if_neg c19] at H
   exact absurd H (by simp)
  rw [if_pos c19] at H
  have c19b0 : decide (0 ≤ (ji18)) = true := dT c19
  clear c19
  by_cases c20 : (ji18) < (l6_4.length : Int)
  rotate_left
  ·rw [if_neg c20] at H
   exact absurd H (by simp)
  rw [if_pos c20] at H
  have c20b0 : decide ((ji18) < (l6_4.length : Int)) = true := dT c20
  clear c20
  by_cases c21 : a1 < ((rd_L5 l6_4 (ji18)).length : Int)
  rotate_left
  ·rw [if_neg c21] at H
   exact absurd H (by simp)
  rw [if_pos c21] at H
  have c21b0 : decide (a1 < ((rd_L5 l6_4 (ji18)).length : Int)) = true := dT c21
  clear c21
  by_cases c22 : 0 ≤ a3_0
  rotate_left
  ·rw [if_neg c22] at H
   exact absurd H (by simp)
  rw [if_pos c22] at H
  have c22b0 : decide (0 ≤ a3_0) = true := dT c22
  clear c22
  by_cases c23 : a3_0 < ((rd_L4 (rd_L5 l6_4 (ji18)) a1).length : Int)
  rotate_left
  ·rw [if_neg c23] at H
   exact absurd H (by simp)
  rw [if_pos c23] at H
  have c23b0 : decide (a3_0 < ((rd_L4 (rd_L5 l6_4 (ji18)) a1).length : Int)) = true := dT c23
  clear c23
  obtain rfl := oJ H
  have hcz24_0 : w.cell? ⟨g3_, 0, none⟩ = some (.int .i64 a3_0) := (bc BK3.out 0).trans rfl
  have hfz24_0 := bf BK3.out 0
  obtain ⟨hcz25_0, hcz25_1, hcz25_2, hcz25_3, hcz25_4, hcz25_5⟩ := c6 BK4.out
  obtain ⟨hfz25_0, hfz25_1, hfz25_2, hfz25_3, hfz25_4, hfz25_5⟩ := f6 BK4.out
  have hcz26_0 : w.cell? ⟨g5_, 0, none⟩ = some (.int .i64 a5_0) := (bc BK5.out 0).trans rfl
  have hfz26_0 := bf BK5.out 0
  have p688 : 0 ≤ ((ji11) : Int) := oT (by first | (with_reducible assumption) | assumption)
  have q688 : (ji11) < (l4_4.length : Int) := oT (by first | (with_reducible assumption) | assumption)
  obtain ⟨ad688, A688_0, c688_0, e688, hx688_0, hl688_0, hi688_0⟩ := at_L5 HR4_4.out (ji11) p688 q688
  cases e688
  have HR688_0 := AZ.mk hi688_0
  have HC688_0 := AZ.mk hl688_0
  clear hi688_0 hl688_0
  replace p688 := eq_true p688
  replace q688 := eq_true q688
  have p689 : 0 ≤ (a1 : Int) := oT (by first | (with_reducible assumption) | assumption)
  have q689 : a1 < ((rd_L5 l4_4 (ji11)).length : Int) := oT (by first | (with_reducible assumption) | assumption)
  obtain ⟨ad689, A689_0, c689_0, e689, hx689_0, hl689_0, hi689_0⟩ := at_L4 HR688_0.out a1 p689 q689
  cases e689
  have HR689_0 := AZ.mk hi689_0
  have HC689_0 := AZ.mk hl689_0
  clear hi689_0 hl689_0
  replace p689 := eq_true p689
  replace q689 := eq_true q689
  have p690 : 0 ≤ (a4_0 : Int) := oT (by first | (with_reducible assumption) | assumption)
  have q690 : a4_0 < ((rd_L4 (rd_L5 l4_4 (ji11)) a1).length : Int) := oT (by first | (with_reducible assumption) | assumption)
  obtain ⟨ad690, e690, hx690_0⟩ := Kd.at_int HR689_0.out a4_0 p690 q690
  cases e690
  replace p690 := eq_true p690
  replace q690 := eq_true q690
  obtain ⟨hcz27_0, hcz27_1, hcz27_2, hcz27_3, hcz27_4, hcz27_5⟩ := c6 BK6.out
  obtain ⟨hfz27_0, hfz27_1, hfz27_2, hfz27_3, hfz27_4, hfz27_5⟩ := f6 BK6.out
  have p691 : 0 ≤ ((ji18) : Int) := oT (by first | (with_reducible assumption) | assumption)
  have q691 : (ji18) < (l6_4.length : Int) := oT (by first | (with_reducible assumption) | assumption)
  obtain ⟨ad691, A691_0, c691_0, e691, hx691_0, hl691_0, hi691_0⟩ := at_L5 HR6_4.out (ji18) p691 q691
  cases e691
  have HR691_0 := AZ.mk hi691_0
  have HC691_0 := AZ.mk hl691_0
  clear hi691_0 hl691_0
  replace p691 := eq_true p691
  replace q691 := eq_true q691
  have p692 : 0 ≤ (a1 : Int) := oT (by first | (with_reducible assumption) | assumption)
  have q692 : a1 < ((rd_L5 l6_4 (ji18)).length : Int) := oT (by first | (with_reducible assumption) | assumption)
  obtain ⟨ad692, A692_0, c692_0, e692, hx692_0, hl692_0, hi692_0⟩ := at_L4 HR691_0.out a1 p692 q692
  cases e692
  have HR692_0 := AZ.mk hi692_0
  have HC692_0 := AZ.mk hl692_0
  clear hi692_0 hl692_0
  replace p692 := eq_true p692
  replace q692 := eq_true q692
  have p693 : 0 ≤ (a3_0 : Int) := oT (by first | (with_reducible assumption) | assumption)
  have q693 : a3_0 < ((rd_L4 (rd_L5 l6_4 (ji18)) a1).length : Int) := oT (by first | (with_reducible assumption) | assumption)
  obtain ⟨ad693, e693, hx693_0⟩ := Kd.at_int HR692_0.out a3_0 p693 q693
  cases e693
  replace p693 := eq_true p693
  replace q693 := eq_true q693
  go_enter Try.func112, Try.ntmps112
  go_wp2
  repeat (go_quiet (fail); try go_wp2)
  go_ret
  exact ⟨by first | rfl | (simp; done) | (simp only [← hji11, ← hji18] <;> (first | rfl | simp)) | (simp [*]; done), by repeat (first | exact Drawn0.refl _ | apply Drawn0.step)⟩
 rw [if_neg c9] at H
 have c9b0 : (a2 == (wrap64 (a4_0 * a3_0))) = false := beq_eq_false_iff_ne.mpr c9
 have c9b1 : (a2 != (wrap64 (a4_0 * a3_0))) = true := bne_iff_ne.mpr c9
 by_cases c28 : a5_0 = 0
 ·rw [if_pos c28] at H
  exact absurd H (by simp)
 rw [if_neg c28] at H
 have c28b0 : (a5_0 == 0) = false := beq_eq_false_iff_ne.mpr c28
 have c28b1 : (a5_0 != 0) = true := bne_iff_ne.mpr c28
 obtain ⟨ji29, hji29⟩ : ∃ j_ : Int, (wrap64 (Int.tdiv a0 a5_0)) = j_ := ⟨_, rfl⟩
 replace H : (if 0 ≤ (ji29) then (if (ji29) < (l4_4.length : Int) then (if 0 ≤ a1 then (if a1 < ((rd_L5 l4_4 (ji29)).length : Int) then (if 0 ≤ (wrap64 (Int.tdiv a2 a3_0)) then (if (wrap64 (Int.tdiv a2 a3_0)) < ((rd_L4 (rd_L5 l4_4 (ji29)) a1).length : Int) then (if 0 ≤ (Int.tmod a0 a5_0) then (if (Int.tmod a0 a5_0) < (l6_4.length : Int) then (if a1 < ((rd_L5 l6_4 (Int.tmod a0 a5_0)).length : Int) then (if 0 ≤ (Int.tmod a2 a3_0) then (if (Int.tmod a2 a3_0) < ((rd_L4 (rd_L5 l6_4 (Int.tmod a0 a5_0)) a1).length : Int) then (some (wrap64 ((wrap64 ((rd (rd_L4 (rd_L5 l4_4 (ji29)) a1) (wrap64 (Int.tdiv a2 a3_0))) * a5_0)) + (rd (rd_L4 (rd_L5 l6_4 (Int.tmod a0 a5_0)) a1) (Int.tmod a2 a3_0))))) else (none)) else (none)) else (none)) else (none)) else (none)) else (none)) else (none)) else (none)) else (none)) else (none)) else (none)) = some r := by first | (rw [hji29] at H; exact H) | (simp only [hji29] at H ⊢; exact H)
 have hji29w : (IntKind.i64.wrap (Int.tdiv a0 a5_0)) = ji29 := (i64_w _).trans hji29
 by_cases c30 : 0 ≤ (ji29)
 rotate_left
 ·rw [if_neg c30] at H
  exact absurd H (by simp)
 rw [if_pos c30] at H
 have c30b0 : decide (0 ≤ (ji29)) = true := dT c30
 clear c30
 by_cases c31 : (ji29) < (l4_4.length : Int)
 rotate_left
 ·rw [if_neg c31] at H
  exact absurd H (by simp)
 rw [if_pos c31] at H
 have c31b0 : decide ((ji29) < (l4_4.length : Int)) = true := dT c31
 clear c31
 by_cases c32 : 0 ≤ a1
 rotate_left
 ·rw [if_neg c32] at H
  exact absurd H (by simp)
 rw [if_pos c32] at H
 have c32b0 : decide (0 ≤ a1) = true := dT c32
 clear c32
 by_cases c33 : a1 < ((rd_L5 l4_4 (ji29)).length : Int)
 rotate_left
 ·rw [if_neg c33] at H
  exact absurd H (by simp)
 rw [if_pos c33] at H
 have c33b0 : decide (a1 < ((rd_L5 l4_4 (ji29)).length : Int)) = true := dT c33
 clear c33
 obtain ⟨ji34, hji34⟩ : ∃ j_ : Int, (wrap64 (Int.tdiv a2 a3_0)) = j_ := ⟨_, rfl⟩
 replace H : (if 0 ≤ (ji34) then (if (ji34) < ((rd_L4 (rd_L5 l4_4 (ji29)) a1).length : Int) then (if 0 ≤ (Int.tmod a0 a5_0) then (if (Int.tmod a0 a5_0) < (l6_4.length : Int) then (if a1 < ((rd_L5 l6_4 (Int.tmod a0 a5_0)).length : Int) then (if 0 ≤ (Int.tmod a2 a3_0) then (if (Int.tmod a2 a3_0) < ((rd_L4 (rd_L5 l6_4 (Int.tmod a0 a5_0)) a1).length : Int) then (some (wrap64 ((wrap64 ((rd (rd_L4 (rd_L5 l4_4 (ji29)) a1) (ji34)) * a5_0)) + (rd (rd_L4 (rd_L5 l6_4 (Int.tmod a0 a5_0)) a1) (Int.tmod a2 a3_0))))) else (none)) else (none)) else (none)) else (none)) else (none)) else (none)) else (none)) = some r := by first | (rw [hji34] at H; exact H) | (simp only [hji34] at H ⊢; exact H)
 have hji34w : (IntKind.i64.wrap (Int.tdiv a2 a3_0)) = ji34 := (i64_w _).trans hji34
 by_cases c35 : 0 ≤ (ji34)
 rotate_left
 ·rw [if_neg c35] at H
  exact absurd H (by simp)
 rw [if_pos c35] at H
 have c35b0 : decide (0 ≤ (ji34)) = true := dT c35
 clear c35
 by_cases c36 : (ji34) < ((rd_L4 (rd_L5 l4_4 (ji29)) a1).length : Int)
 rotate_left
 ·rw [if_neg c36] at H
  exact absurd H (by simp)
 rw [if_pos c36] at H
 have c36b0 : decide ((ji34) < ((rd_L4 (rd_L5 l4_4 (ji29)) a1).length : Int)) = true := dT c36
 clear c36
 obtain ⟨ji37, hji37⟩ : ∃ j_ : Int, (Int.tmod a0 a5_0) = j_ := ⟨_, rfl⟩
 replace H : (if 0 ≤ (ji37) then (if (ji37) < (l6_4.length : Int) then (if a1 < ((rd_L5 l6_4 (ji37)).length : Int) then (if 0 ≤ (Int.tmod a2 a3_0) then (if (Int.tmod a2 a3_0) < ((rd_L4 (rd_L5 l6_4 (ji37)) a1).length : Int) then (some (wrap64 ((wrap64 ((rd (rd_L4 (rd_L5 l4_4 (ji29)) a1) (ji34)) * a5_0)) + (rd (rd_L4 (rd_L5 l6_4 (ji37)) a1) (Int.tmod a2 a3_0))))) else (none)) else (none)) else (none)) else (none)) else (none)) = some r := by first | (rw [hji37] at H; exact H) | (simp only [hji37] at H ⊢; exact H)
 by_cases c38 : 0 ≤ (ji37)
 rotate_left
 ·rw [if_neg c38] at H
  exact absurd H (by simp)
 rw [if_pos c38] at H
 have c38b0 : decide (0 ≤ (ji37)) = true := dT c38
 clear c38
 by_cases c39 : (ji37) < (l6_4.length : Int)
 rotate_left
 ·rw [if_neg c39] at H
  exact absurd H (by simp)
 rw [if_pos c39] at H
 have c39b0 : decide ((ji37) < (l6_4.length : Int)) = true := dT c39
 clear c39
 by_cases c40 : a1 < ((rd_L5 l6_4 (ji37)).length : Int)
 rotate_left
 ·rw [if_neg c40] at H
  exact absurd H (by simp)
 rw [if_pos c40] at H
 have c40b0 : decide (a1 < ((rd_L5 l6_4 (ji37)).length : Int)) = true := dT c40
 clear c40
 obtain ⟨ji41, hji41⟩ : ∃ j_ : Int, (Int.tmod a2 a3_0) = j_ := ⟨_, rfl⟩
 replace H : (if 0 ≤ (ji41) then (if (ji41) < ((rd_L4 (rd_L5 l6_4 (ji37)) a1).length : Int) then (some (wrap64 ((wrap64 ((rd (rd_L4 (rd_L5 l4_4 (ji29)) a1) (ji34)) * a5_0)) + (rd (rd_L4 (rd_L5 l6_4 (ji37)) a1) (ji41))))) else (none)) else (none)) = some r := by first | (rw [hji41] at H; exact H) | (simp only [hji41] at H ⊢; exact H)
 by_cases c42 : 0 ≤ (ji41)
 rotate_left
 ·rw [if_neg c42] at H
  exact absurd H (by simp)
 rw [if_pos c42] at H
 have c42b0 : decide (0 ≤ (ji41)) = true := dT c42
 clear c42
 by_cases c43 : (ji41) < ((rd_L4 (rd_L5 l6_4 (ji37)) a1).length : Int)
 rotate_left
 ·rw [if_neg c43] at H
  exact absurd H (by simp)
 rw [if_pos c43] at H
 have c43b0 : decide ((ji41) < ((rd_L4 (rd_L5 l6_4 (ji37)) a1).length : Int)) = true := dT c43
 clear c43
 obtain rfl := oJ H
 have hcz44_0 : w.cell? ⟨g3_, 0, none⟩ = some (.int .i64 a3_0) := (bc BK3.out 0).trans rfl
 have hfz44_0 := bf BK3.out 0
 obtain ⟨hcz45_0, hcz45_1, hcz45_2, hcz45_3, hcz45_4, hcz45_5⟩ := c6 BK4.out
 obtain ⟨hfz45_0, hfz45_1, hfz45_2, hfz45_3, hfz45_4, hfz45_5⟩ := f6 BK4.out
 have hcz46_0 : w.cell? ⟨g5_, 0, none⟩ = some (.int .i64 a5_0) := (bc BK5.out 0).trans rfl
 have hfz46_0 := bf BK5.out 0
 have p694 : 0 ≤ ((ji29) : Int) := oT (by first | (with_reducible assumption) | assumption)
 have q694 : (ji29) < (l4_4.length : Int) := oT (by first | (with_reducible assumption) | assumption)
 obtain ⟨ad694, A694_0, c694_0, e694, hx694_0, hl694_0, hi694_0⟩ := at_L5 HR4_4.out (ji29) p694 q694
 cases e694
 have HR694_0 := AZ.mk hi694_0
 have HC694_0 := AZ.mk hl694_0
 clear hi694_0 hl694_0
 replace p694 := eq_true p694
 replace q694 := eq_true q694
 have p695 : 0 ≤ (a1 : Int) := oT (by first | (with_reducible assumption) | assumption)
 have q695 : a1 < ((rd_L5 l4_4 (ji29)).length : Int) := oT (by first | (with_reducible assumption) | assumption)
 obtain ⟨ad695, A695_0, c695_0, e695, hx695_0, hl695_0, hi695_0⟩ := at_L4 HR694_0.out a1 p695 q695
 cases e695
 have HR695_0 := AZ.mk hi695_0
 have HC695_0 := AZ.mk hl695_0
 clear hi695_0 hl695_0
 replace p695 := eq_true p695
 replace q695 := eq_true q695
 have p696 : 0 ≤ ((ji34) : Int) := oT (by first | (with_reducible assumption) | assumption)
 have q696 : (ji34) < ((rd_L4 (rd_L5 l4_4 (ji29)) a1).length : Int) := oT (by first | (with_reducible assumption) | assumption)
 obtain ⟨ad696, e696, hx696_0⟩ := Kd.at_int HR695_0.out (ji34) p696 q696
 cases e696
 replace p696 := eq_true p696
 replace q696 := eq_true q696
 obtain ⟨hcz47_0, hcz47_1, hcz47_2, hcz47_3, hcz47_4, hcz47_5⟩ := c6 BK6.out
 obtain ⟨hfz47_0, hfz47_1, hfz47_2, hfz47_3, hfz47_4, hfz47_5⟩ := f6 BK6.out
 have p697 : 0 ≤ ((ji37) : Int) := oT (by first | (with_reducible assumption) | assumption)
 have q697 : (ji37) < (l6_4.length : Int) := oT (by first | (with_reducible assumption) | assumption)
 obtain ⟨ad697, A697_0, c697_0, e697, hx697_0, hl697_0, hi697_0⟩ := at_L5 HR6_4.out (ji37) p697 q697
 cases e697
 have HR697_0 := AZ.mk hi697_0
 have HC697_0 := AZ.mk hl697_0
 clear hi697_0 hl697_0
 replace p697 := eq_true p697
 replace q697 := eq_true q697
 have p698 : 0 ≤ (a1 : Int) := oT (by first | (with_reducible assumption) | assumption)
 have q698 : a1 < ((rd_L5 l6_4 (ji37)).length : Int) := oT (by first | (with_reducible assumption) | assumption)
 obtain ⟨ad698, A698_0, c698_0, e698, hx698_0, hl698_0, hi698_0⟩ := at_L4 HR697_0.out a1 p698 q698
 cases e698
 have HR698_0 := AZ.mk hi698_0
 have HC698_0 := AZ.mk hl698_0
 clear hi698_0 hl698_0
 replace p698 := eq_true p698
 replace q698 := eq_true q698
 have p699 : 0 ≤ ((ji41) : Int) := oT (by first | (with_reducible assumption) | assumption)
 have q699 : (ji41) < ((rd_L4 (rd_L5 l6_4 (ji37)) a1).length : Int) := oT (by first | (with_reducible assumption) | assumption)
 obtain ⟨ad699, e699, hx699_0⟩ := Kd.at_int HR698_0.out (ji41) p699 q699
 cases e699
 replace p699 := eq_true p699
 replace q699 := eq_true q699
 go_enter Try.func112, Try.ntmps112
 go_wp2
 repeat (go_quiet (fail); try go_wp2)
 go_ret
 exact ⟨by first | rfl | (simp; done) | (simp only [← hji29, ← hji34, ← hji37, ← hji41] <;> (first | rfl | simp)) | (simp [*]; done), by repeat (first | exact Drawn0.refl _ | apply Drawn0.step)⟩
attribute [local go_sem] Zn Zp Zw Zx Zj Zk Zq Zr
def impl_paired_4_c.f (a0 : Int) (a1 : Int) (a2_0 : Int) (a2_1 : Int) (l2_2 : List Bool) (l2_3 : List (List (S47))) (l2_4 : List (List (List Int))) (l2_5 : List (List Int)) (a3_0 : Int) (a4_0 : Int) (a4_1 : Int) (l4_2 : List Bool) (l4_3 : List (List (S47))) (l4_4 : List (List (List Int))) (l4_5 : List (List Int)) : Option (Int) := if a3_0 = 0 then (none) else (if 0 ≤ (wrap64 (Int.tdiv a0 a3_0)) then (if (wrap64 (Int.tdiv a0 a3_0)) < (l2_5.length : Int) then (if 0 ≤ a1 then (if a1 < ((rd_L4 l2_5 (wrap64 (Int.tdiv a0 a3_0))).length : Int) then (if 0 ≤ (Int.tmod a0 a3_0) then (if (Int.tmod a0 a3_0) < (l4_5.length : Int) then (if a1 < ((rd_L4 l4_5 (Int.tmod a0 a3_0)).length : Int) then (some (wrap64 ((wrap64 ((rd (rd_L4 l2_5 (wrap64 (Int.tdiv a0 a3_0))) a1) * a3_0)) + (rd (rd_L4 l4_5 (Int.tmod a0 a3_0)) a1)))) else (none)) else (none)) else (none)) else (none)) else (none)) else (none)) else (none))
theorem impl_paired_4_c.calls (a0 : Int) (a1 : Int) (g2_ : Nat) (a2_0 : Int) (a2_1 : Int) (A2_2 : Option Addr) (c2_2 : Nat) (l2_2 : List Bool) (A2_3 : Option Addr) (c2_3 : Nat) (l2_3 : List (List (S47))) (A2_4 : Option Addr) (c2_4 : Nat) (l2_4 : List (List (List Int))) (A2_5 : Option Addr) (c2_5 : Nat) (l2_5 : List (List Int)) (g3_ : Nat) (a3_0 : Int) (g4_ : Nat) (a4_0 : Int) (a4_1 : Int) (A4_2 : Option Addr) (c4_2 : Nat) (l4_2 : List Bool) (A4_3 : Option Addr) (c4_3 : Nat) (l4_3 : List (List (S47))) (A4_4 : Option Addr) (c4_4 : Nat) (l4_4 : List (List (List Int))) (A4_5 : Option Addr) (c4_5 : Nat) (l4_5 : List (List Int)) (r : Int) (w : World) (hr2_2 : Kd.C Kd.bool w A2_2 l2_2.length l2_2) (hc2_2 : l2_2.length ≤ c2_2) (hr2_3 : Kd.C (Kd.slice 47 k47) w A2_3 l2_3.length l2_3) (hc2_3 : l2_3.length ≤ c2_3) (hr2_4 : Kd.C (Kd.slice 49 (Kd.slice 2 (Kd.int .i64))) w A2_4 l2_4.length l2_4) (hc2_4 : l2_4.length ≤ c2_4) (hr2_5 : Kd.C (Kd.slice 2 (Kd.int .i64)) w A2_5 l2_5.length l2_5) (hc2_5 : l2_5.length ≤ c2_5) (hr4_2 : Kd.C Kd.bool w A4_2 l4_2.length l4_2) (hc4_2 : l4_2.length ≤ c4_2) (hr4_3 : Kd.C (Kd.slice 47 k47) w A4_3 l4_3.length l4_3) (hc4_3 : l4_3.length ≤ c4_3) (hr4_4 : Kd.C (Kd.slice 49 (Kd.slice 2 (Kd.int .i64))) w A4_4 l4_4.length l4_4) (hc4_4 : l4_4.length ≤ c4_4) (hr4_5 : Kd.C (Kd.slice 2 (Kd.int .i64)) w A4_5 l4_5.length l4_5) (hc4_5 : l4_5.length ≤ c4_5) (hbk2_0 : w.heap[g2_]? = some (.cells #[.int .i64 a2_0, .int .i64 a2_1, .slice A2_2 l2_2.length c2_2, .slice A2_3 l2_3.length c2_3, .slice A2_4 l2_4.length c2_4, .slice A2_5 l2_5.length c2_5] 27 (0, 0))) (hbk3_0 : w.heap[g3_]? = some (.cells #[.int .i64 a3_0] 2 (0, 0))) (hbk4_0 : w.heap[g4_]? = some (.cells #[.int .i64 a4_0, .int .i64 a4_1, .slice A4_2 l4_2.length c4_2, .slice A4_3 l4_3.length c4_3, .slice A4_4 l4_4.length c4_4, .slice A4_5 l4_5.length c4_5] 27 (0, 0))) (h : impl_paired_4_c.f a0 a1 a2_0 a2_1 l2_2 l2_3 l2_4 l2_5 a3_0 a4_0 a4_1 l4_2 l4_3 l4_4 l4_5 = some r) :
  Calls Try.prog 113 #[.int .i64 a0, .int .i64 a1, .pointer (some ⟨g2_, 0, none⟩), .pointer (some ⟨g3_, 0, none⟩), .pointer (some ⟨g4_, 0, none⟩)] w fun e w' => e = .returned (.int .i64 r) ∧ Drawn0 w w' := by
 have HR2_2 := AZ.mk hr2_2
 have HC2_2 := AZ.mk hc2_2
 clear hr2_2 hc2_2
 have HR2_3 := AZ.mk hr2_3
 have HC2_3 := AZ.mk hc2_3
 clear hr2_3 hc2_3
 have HR2_4 := AZ.mk hr2_4
 have HC2_4 := AZ.mk hc2_4
 clear hr2_4 hc2_4
 have HR2_5 := AZ.mk hr2_5
 have HC2_5 := AZ.mk hc2_5
 clear hr2_5 hc2_5
 have HR4_2 := AZ.mk hr4_2
 have HC4_2 := AZ.mk hc4_2
 clear hr4_2 hc4_2
 have HR4_3 := AZ.mk hr4_3
 have HC4_3 := AZ.mk hc4_3
 clear hr4_3 hc4_3
 have HR4_4 := AZ.mk hr4_4
 have HC4_4 := AZ.mk hc4_4
 clear hr4_4 hc4_4
 have HR4_5 := AZ.mk hr4_5
 have HC4_5 := AZ.mk hc4_5
 clear hr4_5 hc4_5
 have BK2 := AZ.mk hbk2_0
 clear hbk2_0
 have BK3 := AZ.mk hbk3_0
 clear hbk3_0
 have BK4 := AZ.mk hbk4_0
 clear hbk4_0
 have H : (if a3_0 = 0 then (none) else (if 0 ≤ (wrap64 (Int.tdiv a0 a3_0)) then (if (wrap64 (Int.tdiv a0 a3_0)) < (l2_5.length : Int) then (if 0 ≤ a1 then (if a1 < ((rd_L4 l2_5 (wrap64 (Int.tdiv a0 a3_0))).length : Int) then (if 0 ≤ (Int.tmod a0 a3_0) then (if (Int.tmod a0 a3_0) < (l4_5.length : Int) then (if a1 < ((rd_L4 l4_5 (Int.tmod a0 a3_0)).length : Int) then (some (wrap64 ((wrap64 ((rd (rd_L4 l2_5 (wrap64 (Int.tdiv a0 a3_0))) a1) * a3_0)) + (rd (rd_L4 l4_5 (Int.tmod a0 a3_0)) a1)))) else (none)) else (none)) else (none)) else (none)) else (none)) else (none)) else (none))) = some r := h
 clear h
 by_cases c6h : a3_0 = 0
 ·rw [if_pos c6h] at H
  exact absurd H (by simp)
 rw [if_neg c6h] at H
 have c6b0 : (a3_0 == 0) = false := beq_eq_false_iff_ne.mpr c6h
 have c6b1 : (a3_0 != 0) = true := bne_iff_ne.mpr c6h
 obtain ⟨ji7, hji7⟩ : ∃ j_ : Int, (wrap64 (Int.tdiv a0 a3_0)) = j_ := ⟨_, rfl⟩
 replace H : (if 0 ≤ (ji7) then (if (ji7) < (l2_5.length : Int) then (if 0 ≤ a1 then (if a1 < ((rd_L4 l2_5 (ji7)).length : Int) then (if 0 ≤ (Int.tmod a0 a3_0) then (if (Int.tmod a0 a3_0) < (l4_5.length : Int) then (if a1 < ((rd_L4 l4_5 (Int.tmod a0 a3_0)).length : Int) then (some (wrap64 ((wrap64 ((rd (rd_L4 l2_5 (ji7)) a1) * a3_0)) + (rd (rd_L4 l4_5 (Int.tmod a0 a3_0)) a1)))) else (none)) else (none)) else (none)) else (none)) else (none)) else (none)) else (none)) = some r := by first | (rw [hji7] at H; exact H) | (simp only [hji7] at H ⊢; exact H)
 have hji7w : (IntKind.i64.wrap (Int.tdiv a0 a3_0)) = ji7 := (i64_w _).trans hji7
 by_cases c8 : 0 ≤ (ji7)
 rotate_left
 ·rw [if_neg c8] at H
  exact absurd H (by simp)
 rw [if_pos c8] at H
 have c8b0 : decide (0 ≤ (ji7)) = true := dT c8
 clear c8
 by_cases c9 : (ji7) < (l2_5.length : Int)
 rotate_left
 ·rw [if_neg c9] at H
  exact absurd H (by simp)
 rw [if_pos c9] at H
 have c9b0 : decide ((ji7) < (l2_5.length : Int)) = true := dT c9
 clear c9
 by_cases c10 : 0 ≤ a1
 rotate_left
 ·rw [if_neg c10] at H
  exact absurd H (by simp)
 rw [if_pos c10] at H
 have c10b0 : decide (0 ≤ a1) = true := dT c10
 clear c10
 by_cases c11 : a1 < ((rd_L4 l2_5 (ji7)).length : Int)
 rotate_left
 ·rw [if_neg c11] at H
  exact absurd H (by simp)
 rw [if_pos c11] at H
 have c11b0 : decide (a1 < ((rd_L4 l2_5 (ji7)).length : Int)) = true := dT c11
 clear c11
 obtain ⟨ji12, hji12⟩ : ∃ j_ : Int, (Int.tmod a0 a3_0) = j_ := ⟨_, rfl⟩
 replace H : (if 0 ≤ (ji12) then (if (ji12) < (l4_5.length : Int) then (if a1 < ((rd_L4 l4_5 (ji12)).length : Int) then (some (wrap64 ((wrap64 ((rd (rd_L4 l2_5 (ji7)) a1) * a3_0)) + (rd (rd_L4 l4_5 (ji12)) a1)))) else (none)) else (none)) else (none)) = some r := by first | (rw [hji12] at H; exact H) | (simp only [hji12] at H ⊢; exact H)
 by_cases c13 : 0 ≤ (ji12)
 rotate_left
 ·rw [if_neg c13] at H
  exact absurd H (by simp)
 rw [if_pos c13] at H
 have c13b0 : decide (0 ≤ (ji12)) = true := dT c13
 clear c13
 by_cases c14 : (ji12) < (l4_5.length : Int)
 rotate_left
 ·rw [if_neg c14] at H
  exact absurd H (by simp)
 rw [if_pos c14] at H
 have c14b0 : decide ((ji12) < (l4_5.length : Int)) = true := dT c14
 clear c14
 by_cases c15 : a1 < ((rd_L4 l4_5 (ji12)).length : Int)
 rotate_left
 ·rw [if_neg c15] at H
  exact absurd H (by simp)
 rw [if_pos c15] at H
 have c15b0 : decide (a1 < ((rd_L4 l4_5 (ji12)).length : Int)) = true := dT c15
 clear c15
 obtain rfl := oJ H
 obtain ⟨hcz16_0, hcz16_1, hcz16_2, hcz16_3, hcz16_4, hcz16_5⟩ := c6 BK2.out
 obtain ⟨hfz16_0, hfz16_1, hfz16_2, hfz16_3, hfz16_4, hfz16_5⟩ := f6 BK2.out
 have hcz17_0 : w.cell? ⟨g3_, 0, none⟩ = some (.int .i64 a3_0) := (bc BK3.out 0).trans rfl
 have hfz17_0 := bf BK3.out 0
 have p700 : 0 ≤ ((ji7) : Int) := oT (by first | (with_reducible assumption) | assumption)
 have q700 : (ji7) < (l2_5.length : Int) := oT (by first | (with_reducible assumption) | assumption)
 obtain ⟨ad700, A700_0, c700_0, e700, hx700_0, hl700_0, hi700_0⟩ := at_L4 HR2_5.out (ji7) p700 q700
 cases e700
 have HR700_0 := AZ.mk hi700_0
 have HC700_0 := AZ.mk hl700_0
 clear hi700_0 hl700_0
 replace p700 := eq_true p700
 replace q700 := eq_true q700
 have p701 : 0 ≤ (a1 : Int) := oT (by first | (with_reducible assumption) | assumption)
 have q701 : a1 < ((rd_L4 l2_5 (ji7)).length : Int) := oT (by first | (with_reducible assumption) | assumption)
 obtain ⟨ad701, e701, hx701_0⟩ := Kd.at_int HR700_0.out a1 p701 q701
 cases e701
 replace p701 := eq_true p701
 replace q701 := eq_true q701
 obtain ⟨hcz18_0, hcz18_1, hcz18_2, hcz18_3, hcz18_4, hcz18_5⟩ := c6 BK4.out
 obtain ⟨hfz18_0, hfz18_1, hfz18_2, hfz18_3, hfz18_4, hfz18_5⟩ := f6 BK4.out
 have p702 : 0 ≤ ((ji12) : Int) := oT (by first | (with_reducible assumption) | assumption)
 have q702 : (ji12) < (l4_5.length : Int) := oT (by first | (with_reducible assumption) | assumption)
 obtain ⟨ad702, A702_0, c702_0, e702, hx702_0, hl702_0, hi702_0⟩ := at_L4 HR4_5.out (ji12) p702 q702
 cases e702
 have HR702_0 := AZ.mk hi702_0
 have HC702_0 := AZ.mk hl702_0
 clear hi702_0 hl702_0
 replace p702 := eq_true p702
 replace q702 := eq_true q702
 have p703 : 0 ≤ (a1 : Int) := oT (by first | (with_reducible assumption) | assumption)
 have q703 : a1 < ((rd_L4 l4_5 (ji12)).length : Int) := oT (by first | (with_reducible assumption) | assumption)
 obtain ⟨ad703, e703, hx703_0⟩ := Kd.at_int HR702_0.out a1 p703 q703
 cases e703
 replace p703 := eq_true p703
 replace q703 := eq_true q703
 go_enter Try.func113, Try.ntmps113
 go_wp2
 repeat (go_quiet (fail); try go_wp2)
 go_ret
 exact ⟨by first | rfl | (simp; done) | (simp only [← hji7, ← hji12] <;> (first | rfl | simp)) | (simp [*]; done), by repeat (first | exact Drawn0.refl _ | apply Drawn0.step)⟩
end Go.Proofs.Ytepkfigcnnfoaaa.P
namespace Go.Proofs.Ytepkfigcnnfoaaa.P
open Go.RowKit Go.Proofs.YtepkfigcnnfoaaaW.PrintWords Go.Proofs.YtepkfigcnnfoaaaW.PrintLast Go.Proofs.YtepkfigcnnfoaaaW.PrintMore Go.Proofs.Ytepkfigcnnfoaaa.Deep
def pacc (n : Nat) (l2 p2 : List Bool) : Nat → Bool := fun i => rdOf false l2 ((i / n : Nat) : Int) || rdOf false p2 ((i % n : Nat) : Int)
def pcall (n mm : Nat) (l3 p3 : List (List S47)) : Nat → Nat → S47 := fun i q => ⟨wrap64 (wrap64 ((Zb (Zd l3 ((i / n : Nat) : Int)) (q : Int)).f0 * (n : Int)) + (Zb (Zd p3 ((i % n : Nat) : Int)) (q : Int)).f0), wrap64 (wrap64 ((Zb (Zd l3 ((i / n : Nat) : Int)) (q : Int)).f1 * (mm : Int)) + (Zb (Zd p3 ((i % n : Nat) : Int)) (q : Int)).f1)⟩
def pback (n mn mm : Nat) (l4 p4 : List (List (List Int))) : Nat → Nat → Nat → Int := fun i q z => wrap64 (wrap64 (rd (rd_L4 (rd_L5 l4 ((i / n : Nat) : Int)) (q : Int)) ((if z = mn * mm then mn else z / mm : Nat) : Int) * (n : Int)) + rd (rd_L4 (rd_L5 p4 ((i % n : Nat) : Int)) (q : Int)) ((if z = mn * mm then mm else z % mm : Nat) : Int))
def pinner (n : Nat) (l5 p5 : List (List Int)) : Nat → Nat → Int := fun i q => wrap64 (wrap64 (rd (rd_L4 l5 ((i / n : Nat) : Int)) (q : Int) * (n : Int)) + rd (rd_L4 p5 ((i % n : Nat) : Int)) (q : Int))
theorem dv {n s t : Nat} (ht : t < n) : (s * n + t) / n = s ∧ (s * n + t) % n = t := by
 have h : 0 < n := by omega
 refine ⟨?_, ?_⟩
 ·rw [Nat.mul_comm, Nat.mul_add_div h, Nat.div_eq_of_lt ht, Nat.add_zero]
 ·rw [Nat.mul_comm, Nat.mul_add_mod, Nat.mod_eq_of_lt ht]
theorem pacc_at (l2 p2 : List Bool) (s t : Nat) (hs : s < l2.length) (ht : t < p2.length) : pacc p2.length l2 p2 (s * p2.length + t) = (rdOf false l2 (s : Int) || rdOf false p2 (t : Int)) := by
 unfold pacc; rw [(dv ht).1, (dv ht).2]
theorem pcall_at (n mm : Nat) (l3 p3 : List (List S47)) (s t q : Nat) (ht : t < n) : pcall n mm l3 p3 (s * n + t) q = ⟨wrap64 (wrap64 ((Zb (Zd l3 (s : Int)) (q : Int)).f0 * (n : Int)) + (Zb (Zd p3 (t : Int)) (q : Int)).f0), wrap64 (wrap64 ((Zb (Zd l3 (s : Int)) (q : Int)).f1 * (mm : Int)) + (Zb (Zd p3 (t : Int)) (q : Int)).f1)⟩ := by
 unfold pcall; rw [(dv ht).1, (dv ht).2]
theorem lt_mul {x y mn mm : Nat} (hx : x < mn) (hy : y < mm) : x * mm + y < mn * mm := by
 have h := Nat.mul_le_mul_right mm (show x + 1 ≤ mn by omega)
 rw [Nat.succ_mul] at h
 omega
theorem pback_at (n mn mm : Nat) (l4 p4 : List (List (List Int))) (s t q x y : Nat) (ht : t < n) (hx : x < mn) (hy : y < mm) : pback n mn mm l4 p4 (s * n + t) q (x * mm + y) = wrap64 (wrap64 (rd (rd_L4 (rd_L5 l4 (s : Int)) (q : Int)) (x : Int) * (n : Int)) + rd (rd_L4 (rd_L5 p4 (t : Int)) (q : Int)) (y : Int)) := by
 have h := lt_mul hx hy
 unfold pback; rw [(dv ht).1, (dv ht).2, if_neg (by omega), if_neg (by omega), (dv hy).1, (dv hy).2]
theorem pback_end (n mn mm : Nat) (l4 p4 : List (List (List Int))) (s t q : Nat) (ht : t < n) : pback n mn mm l4 p4 (s * n + t) q (mn * mm) = wrap64 (wrap64 (rd (rd_L4 (rd_L5 l4 (s : Int)) (q : Int)) (mn : Int) * (n : Int)) + rd (rd_L4 (rd_L5 p4 (t : Int)) (q : Int)) (mm : Int)) := by
 unfold pback; rw [(dv ht).1, (dv ht).2, if_pos rfl, if_pos rfl]
theorem pinner_at (n : Nat) (l5 p5 : List (List Int)) (s t q : Nat) (ht : t < n) : pinner n l5 p5 (s * n + t) q = wrap64 (wrap64 (rd (rd_L4 l5 (s : Int)) (q : Int) * (n : Int)) + rd (rd_L4 p5 (t : Int)) (q : Int)) := by
 unfold pinner; rw [(dv ht).1, (dv ht).2]
theorem tdivN (i n : Nat) (h : i ≤ 100000) : wrap64 (Int.tdiv (i : Int) (n : Int)) = ((i / n : Nat) : Int) := by
 rw [← Int.ofNat_tdiv]
 have := Nat.div_le_self i n
 generalize i / n = x at *
 exact bw _ (by omega) (by omega)
theorem tmodN (i n : Nat) : Int.tmod (i : Int) (n : Int) = ((i % n : Nat) : Int) := (Int.ofNat_tmod i n).symm
section
variable {mn mm : Nat} {st st' : Int} {l2 p2 : List Bool} {l3 p3 : List (List S47)} {l4 p4 : List (List (List Int))} {l5 p5 : List (List Int)} (h : Sh mn l2 l3 l4 l5) (h' : Sh mm p2 p3 p4 p5) (hn : 0 < p2.length)
include h h' hn
theorem clo_lt {i : Nat} (hi : i < l2.length * p2.length) : i / p2.length < l2.length ∧ i % p2.length < p2.length ∧ i ≤ 100000 := by
 have := Nat.mul_le_mul h.b h'.b
 exact ⟨Nat.div_lt_of_lt_mul (by rw [Nat.mul_comm]; exact hi), Nat.mod_lt _ hn, by omega⟩
theorem clo1 (a a' : Int) (i : Nat) (hi : i < l2.length * p2.length) : impl_paired_1_c_2.f (i : Int) a st l2 l3 l4 l5 (p2.length : Int) a' st' p2 p3 p4 p5 = some (pacc p2.length l2 p2 i) := by
 obtain ⟨k1, k2, k3⟩ := clo_lt h h' hn hi
 unfold impl_paired_1_c_2.f pacc
 rw [tdivN _ _ k3, tmodN]
 generalize i / p2.length = X at *
 generalize i % p2.length = Y at *
 clear hi
 rw [if_neg (by omega), if_pos (by omega), if_pos (by omega), if_pos (by omega), if_pos (by omega)]
 unfold impl_EitherCheckers_1.f
 cases rdOf false l2 (X : Int) <;> simp
theorem clo4 (a a' : Int) (i q : Nat) (hi : i < l2.length * p2.length) (hq : q < 2) : impl_paired_4_c.f (i : Int) (q : Int) a st l2 l3 l4 l5 (p2.length : Int) a' st' p2 p3 p4 p5 = some (pinner p2.length l5 p5 i q) := by
 obtain ⟨k1, k2, k3⟩ := clo_lt h h' hn hi
 have e1 := h.at5 (xs := ((i / p2.length : Nat) : Int)) rfl k1
 have e2 := h'.at5 (xs := ((i % p2.length : Nat) : Int)) rfl k2
 have := h.i
 have := h'.i
 unfold impl_paired_4_c.f pinner
 rw [tdivN _ _ k3, tmodN]
 generalize i / p2.length = X at *
 generalize i % p2.length = Y at *
 clear hi
 rw [if_neg (by omega), if_pos (by omega), if_pos (by omega), if_pos (by omega), if_pos (by omega), if_pos (by omega), if_pos (by omega), if_pos (by omega)]
omit h h' hn in
theorem row_len {m : Nat} {l : List (List Int)} {q : Int} (hl : l.length = 2 ∧ ∀ y ∈ l, y.length = m + 1) (h0 : 0 ≤ q) (h1 : q < 2) : (rd_L4 l q).length = m + 1 := hl.2 _ (getI l _ q h0 (by rw [hl.1]; exact h1))
theorem clo3 (hm : 0 < mm) (i q z : Nat) (hi : i < l2.length * p2.length) (hq : q < 2) (hz : z < mn * mm + 1) : impl_paired_3_c.f (i : Int) (q : Int) (z : Int) (mm : Int) (mn : Int) st l2 l3 l4 l5 (p2.length : Int) (mm : Int) st' p2 p3 p4 p5 = some (pback p2.length mn mm l4 p4 i q z) := by
 obtain ⟨k1, k2, k3⟩ := clo_lt h h' hn hi
 have e1 := h.at4 (xs := ((i / p2.length : Nat) : Int)) rfl k1
 have e2 := h'.at4 (xs := ((i % p2.length : Nat) : Int)) rfl k2
 have r1 := row_len e1 (q := (q : Int)) (by omega) (by omega)
 have r2 := row_len e2 (q := (q : Int)) (by omega) (by omega)
 have g1 := e1.1
 have g2 := e2.1
 clear e1 e2
 have := h.r
 have := h'.r
 have hmm := Nat.mul_le_mul h.a h'.a
 have hz3 : z ≤ 100000 := by omega
 have w1 : wrap64 ((mn : Int) * (mm : Int)) = ((mn * mm : Nat) : Int) := by rw [← Int.natCast_mul]; exact bw _ (by omega) (by omega)
 unfold impl_paired_3_c.f pback
 rw [tdivN _ _ k3, tdivN z mm hz3, tmodN, tmodN, w1]
 clear w1
 generalize i / p2.length = X at *
 generalize i % p2.length = Y at *
 clear hi
 rw [if_neg (by omega)]
 by_cases hz2 : z = mn * mm
 ·rw [if_pos (by omega), if_neg (by omega), if_pos (by omega), if_pos (by omega), if_pos (by omega), if_pos (by omega), if_pos (by omega), if_pos (by omega), if_pos (by omega), if_pos (by omega), if_pos (by omega), if_pos (by omega), if_pos (by omega), if_pos hz2, if_pos hz2]
 ·have z1 : z / mm < mn := Nat.div_lt_of_lt_mul (by rw [Nat.mul_comm]; omega)
  have z2 : z % mm < mm := Nat.mod_lt _ hm
  have z0 : ¬ ((z : Int) = ((mn * mm : Nat) : Int)) := by omega
  generalize z / mm = V at *
  generalize z % mm = U at *
  rw [if_neg z0, if_neg (by omega), if_pos (by omega), if_pos (by omega), if_pos (by omega), if_pos (by omega), if_pos (by omega), if_pos (by omega), if_pos (by omega), if_pos (by omega), if_pos (by omega), if_pos (by omega), if_pos (by omega), if_neg hz2, if_neg hz2]
end
theorem store47_step {ops : Array Oper} {o : Oper} {a : Act} {Q : Exit → Act → World → Prop} {W : World} {K : Act → World → Prop} (hw : Region.wanted o (yielded ops a.tmps) = true) (hN : o.dst = none) (p v : Tmp) (ho : o.op = .store 47 (.tmp p) (.tmp v)) {g : Nat} {old cs : Array Value} (hx : a.eval (.tmp p) = .pointer (some ⟨g, 0, none⟩)) (hy : a.eval (.tmp v) = .agg cs) (hb : W.heap[g]? = some (.cells old 47 (0, 0)))
  (hs : cs.size = 2) (hs0 : old.size = 2) (h1 : cs.all (·.oneCell') = true)
  (h : ∀ w', w'.heap[g]? = some (.cells cs 47 (0, 0)) → (∀ B w0, Below B w0 W → B ≤ g → Below B w0 w') → (∀ k, k ≠ g → w'.heap[k]? = W.heap[k]?) → K (a.put none undef) w') : if Region.wanted o (yielded ops a.tmps) = true then Oper.wp Try.prog o a W K Q else K (a.put none undef) W := by
 rw [if_pos hw]
 refine wp_store_row 47 _ _ ho g cs hx hy 47 old hb (by rw [size47, hs]) (by omega) h1 ?_
 rw [hN]
 exact h _ (setRow_heap _ _ _ _ _ _ hb) (fun B w0 hB hle => hB.trans ⟨rfl, rfl, rfl, by simp, fun k hk => setRow_other _ _ _ _ (by omega)⟩) (fun k hk => setRow_other _ _ _ _ hk)
def p2c.T1 : Bool × List (List Nat × List Nat) := (true, [([], []), ([0], [0]), ([], []), ([], []), ([2, 3], [2, 3]), ([1, 4], [1, 4]), ([5], [5]), ([], []), ([6, 7], [6, 7]), ([8], [8]), ([], []), ([10], [10]), ([], []), ([], []), ([12, 13], [12, 13]), ([11, 14], [11, 14]), ([15], [15]), ([], []), ([16, 17], [16, 17]), ([18], [18]), ([], []), ([], []), ([20, 9, 0, 1, 2, 3, 4, 5, 6, 7, 8, 9, 20, 21], [9, 20]), ([21, 19, 22, 0, 1, 2, 3, 4, 5, 6, 7, 8, 9, 10, 11, 12, 13, 14, 15, 16, 17, 18, 19, 20, 21, 22], [19, 21])])
def p2c.B1 : List Nat := [0, 1, 0, 0, 12, 31, 63, 0, 255, 511, 0, 1024, 0, 0, 12288, 31744, 64512, 0, 261120, 523264, 0, 0, 3146751, 8388607]
theorem p2c.tab1 : rtab .any (opsOf Try.f111 1) = p2c.T1 := by kernel_rfl
theorem p2c.bits1 : waitsOk p2c.T1.2 p2c.B1 = true := by kernel_rfl
theorem clo2_walk (gC gN gD gM : Nat) (m st : Int) (A2 : Option Addr) (c2 : Nat) (l2 : List Bool) (A3 : Option Addr) (c3 : Nat) (l3 : List (List S47)) (A4 : Option Addr) (c4 : Nat) (l4 : List (List (List Int))) (A5 : Option Addr) (c5 : Nat) (l5 : List (List Int)) (m' st' : Int) (B2 : Option Addr) (d2 : Nat) (p2 : List Bool) (B3 : Option Addr) (d3 : Nat) (p3 : List (List S47)) (B4 : Option Addr) (d4 : Nat) (p4 : List (List (List Int))) (B5 : Option Addr) (d5 : Nat) (p5 : List (List Int)) (s t n x y : Int) (w : World) (hC : CH w A2 c2 l2 A3 c3 l3 A4 c4 l4 A5 c5 l5) (hD : CH w B2 d2 p2 B3 d3 p3 B4 d4 p4 B5 d5 p5) (bC : w.heap[gC]? = some (.cells #[.int .i64 m, .int .i64 st, .slice A2 l2.length c2, .slice A3 l3.length c3, .slice A4 l4.length c4, .slice A5 l5.length c5] 27 (0, 0))) (bN : w.heap[gN]? = some (.cells #[.int .i64 n] 2 (0, 0))) (bD : w.heap[gD]? = some (.cells #[.int .i64 m', .int .i64 st', .slice B2 p2.length d2, .slice B3 p3.length d3, .slice B4 p4.length d4, .slice B5 p5.length d5] 27 (0, 0))) (bM : w.heap[gM]? = some (.cells #[.int .i64 m'] 2 (0, 0))) (hn : n ≠ 0) (qd : wrap64 (Int.tdiv s n) = x) (qm : Int.tmod s n = y) (hx : 0 ≤ x ∧ x < (l3.length : Int)) (hy : 0 ≤ y ∧ y < (p3.length : Int)) (ht : 0 ≤ t ∧ t < 2) (hl : (Zd l3 x).length = 2) (hl' : (Zd p3 y).length = 2) :
  Calls Try.prog 111 #[.int .i64 s, .int .i64 t, .pointer (some ⟨gC, 0, none⟩), .pointer (some ⟨gN, 0, none⟩), .pointer (some ⟨gD, 0, none⟩), .pointer (some ⟨gM, 0, none⟩)] w fun e W' => e = .returned (.agg #[.int .i64 (wrap64 ((wrap64 ((Zb (Zd l3 x) t).f0 * n)) + (Zb (Zd p3 y) t).f0)), .int .i64 (wrap64 ((wrap64 ((Zb (Zd l3 x) t).f1 * m')) + (Zb (Zd p3 y) t).f1))]) ∧ Below w.heap.size w W' := by
 have hu47 := Try.underlying47
 obtain ⟨a3, A0, cA, rfl, hU, -, rA⟩ := at_L3 hC.r3 x hx.1 hx.2
 obtain ⟨b3, B0, cB, rfl, hV, -, rB⟩ := at_L3 hD.r3 y hy.1 hy.2
 obtain ⟨aq, rfl, u0, u1⟩ := at_T47 rA t ht.1 (by rw [hl]; exact ht.2)
 obtain ⟨bq, rfl, v0, v1⟩ := at_T47 rB t ht.1 (by rw [hl']; exact ht.2)
 have pt := eq_true ht.1
 have px := eq_true hx.1
 have px2 := eq_true hx.2
 have py := eq_true hy.1
 have py2 := eq_true hy.2
 obtain ⟨nA, hA⟩ : ∃ k : Nat, (Zd l3 x).length = k := ⟨_, rfl⟩
 obtain ⟨nB, hB⟩ : ∃ k : Nat, (Zd p3 y).length = k := ⟨_, rfl⟩
 rw [hA] at hU hl
 rw [hB] at hV hl'
 have pt3 := eq_true (show t < (nA : Int) by omega)
 have pt4 := eq_true (show t < (nB : Int) by omega)
 have z0 : (n == 0) = false := beq_eq_false_iff_ne.mpr hn
 have z1 : (n != 0) = true := bne_iff_ne.mpr hn
 have z2 := eq_false hn
 have qw : IntKind.i64.wrap (Int.tdiv s n) = x := (i64_w _).trans qd
 have Kc3 := AZ.mk (show w.cell? ⟨gC, 3, none⟩ = some (.slice (some a3) l3.length c3) from (bc bC 3).trans rfl)
 have Kd3 := AZ.mk (show w.cell? ⟨gD, 3, none⟩ = some (.slice (some b3) p3.length d3) from (bc bD 3).trans rfl)
 have Kn := AZ.mk (show w.cell? ⟨gN, 0, none⟩ = some (.int .i64 n) from (bc bN 0).trans rfl)
 have Km := AZ.mk (show w.cell? ⟨gM, 0, none⟩ = some (.int .i64 m') from (bc bM 0).trans rfl)
 have U := AZ.mk hU
 have U0 := AZ.mk u0
 have U1 := AZ.mk u1
 have V := AZ.mk hV
 have V0 := AZ.mk v0
 have V1 := AZ.mk v1
 have HW := AZ.mk (Below.refl w.heap.size w)
 clear hx hy ht hl hl' hA hB rA rB hU hV u0 u1 v0 v1 bC bN bD bM hC hD hn
 go_enter Try.func111, Try.ntmps111
 go_wp2_with (first | ((with_reducible refine Zc (N := 8) rfl ?_); refine Zh rfl (N := 8) rfl (cs := #[.int .i64 0, .int .i64 0]) (t := 47) (by go_simp; try rfl) ?_; intro gZ hg WgZ hbx hb; have n9_ := AZ.mk hbx; have GZ := AZ.mk (show w.heap.size ≤ gZ by rw [hg]; exact pZ HW.out); clear hbx hg; replace HW := AZ.mk (pT HW.out hb); clear hb; have BZ := n9_; clear n9_))
 refine start_ (n := 24) (S := fun w' => True) (ds := []) (bz 24 0) (by kernel_rfl) rfl rfl trivial (fun hHeld => ?_)
 refine Yh p2c.tab1 p2c.bits1 (fun HT_ HW_ => ?_)
 have n0_ := AZ.mk (pD HW.out)
 have n1_ := AZ.mk (bd_ BZ.out)
 clear HW BZ
 have HW := n0_
 have BZ := n1_
 clear n0_ n1_
 generalize World.drew _ = wD at HW BZ hHeld ⊢
 have LL := AZ.mk (show 0 < wD.heap.size ∧ 0 < wD.heap.size from ⟨by have := Zv BZ.out; omega, by have := Zv BZ.out; omega⟩)
 have NX := AZ.mk (Or.inr ⟨rfl, rfl⟩ : (0 : Nat) ≠ 0 ∨ (0 : Nat) = 0 ∧ (0 : Nat) = 0)
 refine Ya (i := 0) (N := some 11) (v := ?_) (a' := ?_) (bz 24 1) rfl rfl (Zm HT_.out (by kernel_rfl)) (fun _ _ _ h => h) (Or.inl ⟨by rfl, ?_⟩) ?_ ?_
 rotate_left
 ·intro w'
  go_simp
  with_reducible rfl
 rotate_left
 ·simp only [Act.put, sA, sB, sC, i64_w, i32_w]
  rfl
 refine Ya (i := 2) (N := some 13) (v := ?_) (a' := ?_) (bz 24 5) rfl rfl (Zm HT_.out (by kernel_rfl)) (fun _ _ _ h => h) (Or.inl ⟨by rfl, ?_⟩) ?_ ?_
 rotate_left
 ·intro w'
  go_simp
  with_reducible rfl
 rotate_left
 ·simp only [Act.put, sA, sB, sC, i64_w, i32_w]
  rfl
 refine Ya (i := 7) (N := some 18) (v := ?_) (a' := ?_) (bz 24 133) rfl rfl (Zm HT_.out (by kernel_rfl)) (fun _ _ _ h => h) (Or.inl ⟨by rfl, ?_⟩) ?_ ?_
 rotate_left
 ·intro w'
  go_simp
  with_reducible rfl
 rotate_left
 ·simp only [Act.put, sA, sB, sC, i64_w, i32_w]
  rfl
 refine Ya (i := 10) (N := some 21) (v := ?_) (a' := ?_) (bz 24 1157) rfl rfl (Zm HT_.out (by kernel_rfl)) (fun _ _ _ h => h) (Or.inl ⟨by rfl, ?_⟩) ?_ ?_
 rotate_left
 ·intro w'
  go_simp
  with_reducible rfl
 rotate_left
 ·simp only [Act.put, sA, sB, sC, i64_w, i32_w]
  rfl
 refine Ya (i := 12) (N := some 23) (v := ?_) (a' := ?_) (bz 24 5253) rfl rfl (Zm HT_.out (by kernel_rfl)) (fun _ _ _ h => h) (Or.inl ⟨by rfl, ?_⟩) ?_ ?_
 rotate_left
 ·intro w'
  go_simp
  with_reducible rfl
 rotate_left
 ·simp only [Act.put, sA, sB, sC, i64_w, i32_w]
  rfl
 refine Ya (i := 17) (N := some 28) (v := ?_) (a' := ?_) (bz 24 136325) rfl rfl (Zm HT_.out (by kernel_rfl)) (fun _ _ _ h => h) (Or.inl ⟨by rfl, ?_⟩) ?_ ?_
 rotate_left
 ·intro w'
  go_simp
  with_reducible rfl
 rotate_left
 ·simp only [Act.put, sA, sB, sC, i64_w, i32_w]
  rfl
 refine inv_at [1, 3, 4, 5, 6, 8, 9, 11, 13, 14, 15, 16, 18, 19, 20, 21, 22, 23] (fun a0_ b a w' => ∃ (g9 : Nat) (gT : Nat) (m20_ : Value) (m21_ : Value), a = Zz a0_ b [(1, 12, .slice (some a3) l3.length c3), (3, 14, .int .i64 n), (4, 15, .int .i64 x), (5, 16, .pointer (some (a3.add x.toNat))), (6, 17, .slice (some aq) nA cA), (8, 19, .pointer (some (aq.add (t.toNat * 2)))), (9, 20, .agg #[.int .i64 (Zb (Zd l3 x) t).f0, .int .i64 (Zb (Zd l3 x) t).f1]), (11, 22, .slice (some b3) p3.length d3), (13, 24, .int .i64 n), (14, 25, .int .i64 y), (15, 26, .pointer (some (b3.add y.toNat))), (16, 27, .slice (some bq) nB cB), (18, 29, .pointer (some (bq.add (t.toNat * 2)))), (19, 30, .agg #[.int .i64 (Zb (Zd p3 y) t).f0, .int .i64 (Zb (Zd p3 y) t).f1]), (20, 9, m20_), (21, 10, m21_)] ∧ (Below w.heap.size w w') ∧ (w'.heap[gZ]? = some (.cells #[.int .i64 0, .int .i64 0] 47 (0, 0))) ∧ (g9 < w'.heap.size ∧ gT < w'.heap.size) ∧ (g9 ≠ gT ∨ g9 = 0 ∧ gT = 0) ∧ (b 20 = true → gZ < g9) ∧ (b 21 = true → gZ < gT) ∧ (b 20 = true → b 22 = false → w'.heap[g9]? = some (.cells #[.int .i64 0, .int .i64 0] 47 (0, 0))) ∧ (b 22 = true → w'.heap[g9]? = some (.cells #[.int .i64 (Zb (Zd l3 x) t).f0, .int .i64 (Zb (Zd l3 x) t).f1] 47 (0, 0))) ∧ (b 21 = true → b 23 = false → w'.heap[gT]? = some (.cells #[.int .i64 0, .int .i64 0] 47 (0, 0))) ∧ (b 23 = true → w'.heap[gT]? = some (.cells #[.int .i64 (Zb (Zd p3 y) t).f0, .int .i64 (Zb (Zd p3 y) t).f1] 47 (0, 0))) ∧ (b 20 = true → (m20_ : Value) = .pointer (some ⟨g9, 0, none⟩)) ∧ (b 21 = true → (m21_ : Value) = .pointer (some ⟨gT, 0, none⟩))) HT_.out HW_.out (by kernel_rfl) (by kernel_rfl) ?_ ?_ ?_
 ·exact ⟨0, 0, .bool false, .bool false, by simp only [Zz, Bool.false_eq_true, if_false], HW.out, BZ.out, LL.out, NX.out, fun h_ => absurd h_ (by decide), fun h_ => absurd h_ (by decide), fun h_ => absurd h_ (by decide), fun h_ => absurd h_ (by decide), fun h_ => absurd h_ (by decide), fun h_ => absurd h_ (by decide), fun h_ => absurd h_ (by decide), fun h_ => absurd h_ (by decide)⟩
 ·skip
  clear BZ HW LL NX
  refine Za ?_ ?_
  ·rintro b a w' ⟨g9, gT, m20_, m21_, ha, Q_HW, Q_BZ, Q_LL, Q_NX, Q_G9, Q_GT, Q_B90, Q_B9, Q_BT0, Q_BT, Q_X20_, Q_X21_⟩ hb_ hon hoff
   refine ⟨_, rfl, fun K hK => ?_⟩
   have e11 : a.tmps[11]? = some (.pointer (some ⟨gC, 3, none⟩)) := xH_ ha rfl rfl
   replace ha := AZ.mk ha
   have HW := AZ.mk Q_HW
   have hc_ := rdc HW.out Kc3.out
   refine Zg (w1 := w') (v := .slice (some a3) l3.length c3) (by rfl) rfl (by go_simp; (try simp only [i64_w]); try rfl) ?_
   refine hK.out _ _ ⟨g9, gT, m20_, m21_, (xI_ ha.out 0 hb_ rfl rfl rfl), Q_HW, Q_BZ, Q_LL, Q_NX, Q_G9, Q_GT, Q_B90, xA_ (hoff 22 rfl), Q_BT0, xA_ (hoff 23 rfl), Q_X20_, Q_X21_⟩
  refine Za ?_ ?_
  ·rintro b a w' ⟨g9, gT, m20_, m21_, ha, Q_HW, Q_BZ, Q_LL, Q_NX, Q_G9, Q_GT, Q_B90, Q_B9, Q_BT0, Q_BT, Q_X20_, Q_X21_⟩ hb_ hon hoff
   refine ⟨_, rfl, fun K hK => ?_⟩
   have e3 : a.tmps[3]? = some (.pointer (some ⟨gN, 0, none⟩)) := xH_ ha rfl rfl
   replace ha := AZ.mk ha
   have HW := AZ.mk Q_HW
   have hc_ := rdc HW.out Kn.out
   refine Zg (w1 := w') (v := .int .i64 n) (by rfl) rfl (by go_simp; (try simp only [i64_w]); try rfl) ?_
   refine hK.out _ _ ⟨g9, gT, m20_, m21_, (xI_ ha.out 1 hb_ rfl rfl rfl), Q_HW, Q_BZ, Q_LL, Q_NX, Q_G9, Q_GT, Q_B90, xA_ (hoff 22 rfl), Q_BT0, xA_ (hoff 23 rfl), Q_X20_, Q_X21_⟩
  refine Za ?_ ?_
  ·rintro b a w' ⟨g9, gT, m20_, m21_, ha, Q_HW, Q_BZ, Q_LL, Q_NX, Q_G9, Q_GT, Q_B90, Q_B9, Q_BT0, Q_BT, Q_X20_, Q_X21_⟩ hb_ hon hoff
   refine ⟨_, rfl, fun K hK => ?_⟩
   have e13 : a.tmps[13]? = some (.int .i64 s) := xH_ ha rfl rfl
   have e14 := xG_ ha 1 rfl (hon 3 rfl) rfl rfl
   replace ha := AZ.mk ha
   refine Zg (w1 := w') (v := .int .i64 x) (by rfl) rfl (by go_simp; (try simp only [i64_w]); try rfl) ?_
   refine hK.out _ _ ⟨g9, gT, m20_, m21_, (xI_ ha.out 2 hb_ rfl rfl rfl), Q_HW, Q_BZ, Q_LL, Q_NX, Q_G9, Q_GT, Q_B90, xA_ (hoff 22 rfl), Q_BT0, xA_ (hoff 23 rfl), Q_X20_, Q_X21_⟩
  refine Za ?_ ?_
  ·rintro b a w' ⟨g9, gT, m20_, m21_, ha, Q_HW, Q_BZ, Q_LL, Q_NX, Q_G9, Q_GT, Q_B90, Q_B9, Q_BT0, Q_BT, Q_X20_, Q_X21_⟩ hb_ hon hoff
   refine ⟨_, rfl, fun K hK => ?_⟩
   have e12 := xG_ ha 0 rfl (hon 1 rfl) rfl rfl
   have e15 := xG_ ha 2 rfl (hon 4 rfl) rfl rfl
   replace ha := AZ.mk ha
   refine Zg (w1 := w') (v := .pointer (some (a3.add x.toNat))) (by rfl) rfl (by go_simp; (try simp only [i64_w]); try rfl) ?_
   refine hK.out _ _ ⟨g9, gT, m20_, m21_, (xI_ ha.out 3 hb_ rfl rfl rfl), Q_HW, Q_BZ, Q_LL, Q_NX, Q_G9, Q_GT, Q_B90, xA_ (hoff 22 rfl), Q_BT0, xA_ (hoff 23 rfl), Q_X20_, Q_X21_⟩
  refine Za ?_ ?_
  ·rintro b a w' ⟨g9, gT, m20_, m21_, ha, Q_HW, Q_BZ, Q_LL, Q_NX, Q_G9, Q_GT, Q_B90, Q_B9, Q_BT0, Q_BT, Q_X20_, Q_X21_⟩ hb_ hon hoff
   refine ⟨_, rfl, fun K hK => ?_⟩
   have e16 := xG_ ha 3 rfl (hon 5 rfl) rfl rfl
   replace ha := AZ.mk ha
   have HW := AZ.mk Q_HW
   have hc_ := rdc HW.out U.out
   refine Zg (w1 := w') (v := .slice (some aq) nA cA) (by rfl) rfl (by go_simp; (try simp only [i64_w]); try rfl) ?_
   refine hK.out _ _ ⟨g9, gT, m20_, m21_, (xI_ ha.out 4 hb_ rfl rfl rfl), Q_HW, Q_BZ, Q_LL, Q_NX, Q_G9, Q_GT, Q_B90, xA_ (hoff 22 rfl), Q_BT0, xA_ (hoff 23 rfl), Q_X20_, Q_X21_⟩
  refine Za ?_ ?_
  ·rintro b a w' ⟨g9, gT, m20_, m21_, ha, Q_HW, Q_BZ, Q_LL, Q_NX, Q_G9, Q_GT, Q_B90, Q_B9, Q_BT0, Q_BT, Q_X20_, Q_X21_⟩ hb_ hon hoff
   refine ⟨_, rfl, fun K hK => ?_⟩
   have e17 := xG_ ha 4 rfl (hon 6 rfl) rfl rfl
   have e18 : a.tmps[18]? = some (.int .i64 t) := xH_ ha rfl rfl
   replace ha := AZ.mk ha
   refine Zg (w1 := w') (v := .pointer (some (aq.add (t.toNat * 2)))) (by rfl) rfl (by go_simp; (try simp only [i64_w]); try rfl) ?_
   refine hK.out _ _ ⟨g9, gT, m20_, m21_, (xI_ ha.out 5 hb_ rfl rfl rfl), Q_HW, Q_BZ, Q_LL, Q_NX, Q_G9, Q_GT, Q_B90, xA_ (hoff 22 rfl), Q_BT0, xA_ (hoff 23 rfl), Q_X20_, Q_X21_⟩
  refine Za ?_ ?_
  ·rintro b a w' ⟨g9, gT, m20_, m21_, ha, Q_HW, Q_BZ, Q_LL, Q_NX, Q_G9, Q_GT, Q_B90, Q_B9, Q_BT0, Q_BT, Q_X20_, Q_X21_⟩ hb_ hon hoff
   refine ⟨_, rfl, fun K hK => ?_⟩
   have e19 := xG_ ha 5 rfl (hon 8 rfl) rfl rfl
   replace ha := AZ.mk ha
   have HW := AZ.mk Q_HW
   have hc_ := rdc HW.out U0.out
   have hd_ := rdc HW.out U1.out
   refine Zg (w1 := w') (v := .agg #[.int .i64 (Zb (Zd l3 x) t).f0, .int .i64 (Zb (Zd l3 x) t).f1]) (by rfl) rfl (by go_simp; (try simp only [i64_w]); try rfl) ?_
   refine hK.out _ _ ⟨g9, gT, m20_, m21_, (xI_ ha.out 6 hb_ rfl rfl rfl), Q_HW, Q_BZ, Q_LL, Q_NX, Q_G9, Q_GT, Q_B90, xA_ (hoff 22 rfl), Q_BT0, xA_ (hoff 23 rfl), Q_X20_, Q_X21_⟩
  refine Za ?_ ?_
  ·rintro b a w' ⟨g9, gT, m20_, m21_, ha, Q_HW, Q_BZ, Q_LL, Q_NX, Q_G9, Q_GT, Q_B90, Q_B9, Q_BT0, Q_BT, Q_X20_, Q_X21_⟩ hb_ hon hoff
   refine ⟨_, rfl, fun K hK => ?_⟩
   have e21 : a.tmps[21]? = some (.pointer (some ⟨gD, 3, none⟩)) := xH_ ha rfl rfl
   replace ha := AZ.mk ha
   have HW := AZ.mk Q_HW
   have hc_ := rdc HW.out Kd3.out
   refine Zg (w1 := w') (v := .slice (some b3) p3.length d3) (by rfl) rfl (by go_simp; (try simp only [i64_w]); try rfl) ?_
   refine hK.out _ _ ⟨g9, gT, m20_, m21_, (xI_ ha.out 7 hb_ rfl rfl rfl), Q_HW, Q_BZ, Q_LL, Q_NX, Q_G9, Q_GT, Q_B90, Q_B9, Q_BT0, xA_ (hoff 23 rfl), Q_X20_, Q_X21_⟩
  refine Za ?_ ?_
  ·rintro b a w' ⟨g9, gT, m20_, m21_, ha, Q_HW, Q_BZ, Q_LL, Q_NX, Q_G9, Q_GT, Q_B90, Q_B9, Q_BT0, Q_BT, Q_X20_, Q_X21_⟩ hb_ hon hoff
   refine ⟨_, rfl, fun K hK => ?_⟩
   have e3 : a.tmps[3]? = some (.pointer (some ⟨gN, 0, none⟩)) := xH_ ha rfl rfl
   replace ha := AZ.mk ha
   have HW := AZ.mk Q_HW
   have hc_ := rdc HW.out Kn.out
   refine Zg (w1 := w') (v := .int .i64 n) (by rfl) rfl (by go_simp; (try simp only [i64_w]); try rfl) ?_
   refine hK.out _ _ ⟨g9, gT, m20_, m21_, (xI_ ha.out 8 hb_ rfl rfl rfl), Q_HW, Q_BZ, Q_LL, Q_NX, Q_G9, Q_GT, Q_B90, Q_B9, Q_BT0, xA_ (hoff 23 rfl), Q_X20_, Q_X21_⟩
  refine Za ?_ ?_
  ·rintro b a w' ⟨g9, gT, m20_, m21_, ha, Q_HW, Q_BZ, Q_LL, Q_NX, Q_G9, Q_GT, Q_B90, Q_B9, Q_BT0, Q_BT, Q_X20_, Q_X21_⟩ hb_ hon hoff
   refine ⟨_, rfl, fun K hK => ?_⟩
   have e23 : a.tmps[23]? = some (.int .i64 s) := xH_ ha rfl rfl
   have e24 := xG_ ha 8 rfl (hon 13 rfl) rfl rfl
   replace ha := AZ.mk ha
   refine Zg (w1 := w') (v := .int .i64 y) (by rfl) rfl (by go_simp; (try simp only [i64_w]); try rfl) ?_
   refine hK.out _ _ ⟨g9, gT, m20_, m21_, (xI_ ha.out 9 hb_ rfl rfl rfl), Q_HW, Q_BZ, Q_LL, Q_NX, Q_G9, Q_GT, Q_B90, Q_B9, Q_BT0, xA_ (hoff 23 rfl), Q_X20_, Q_X21_⟩
  refine Za ?_ ?_
  ·rintro b a w' ⟨g9, gT, m20_, m21_, ha, Q_HW, Q_BZ, Q_LL, Q_NX, Q_G9, Q_GT, Q_B90, Q_B9, Q_BT0, Q_BT, Q_X20_, Q_X21_⟩ hb_ hon hoff
   refine ⟨_, rfl, fun K hK => ?_⟩
   have e22 := xG_ ha 7 rfl (hon 11 rfl) rfl rfl
   have e25 := xG_ ha 9 rfl (hon 14 rfl) rfl rfl
   replace ha := AZ.mk ha
   refine Zg (w1 := w') (v := .pointer (some (b3.add y.toNat))) (by rfl) rfl (by go_simp; (try simp only [i64_w]); try rfl) ?_
   refine hK.out _ _ ⟨g9, gT, m20_, m21_, (xI_ ha.out 10 hb_ rfl rfl rfl), Q_HW, Q_BZ, Q_LL, Q_NX, Q_G9, Q_GT, Q_B90, Q_B9, Q_BT0, xA_ (hoff 23 rfl), Q_X20_, Q_X21_⟩
  refine Za ?_ ?_
  ·rintro b a w' ⟨g9, gT, m20_, m21_, ha, Q_HW, Q_BZ, Q_LL, Q_NX, Q_G9, Q_GT, Q_B90, Q_B9, Q_BT0, Q_BT, Q_X20_, Q_X21_⟩ hb_ hon hoff
   refine ⟨_, rfl, fun K hK => ?_⟩
   have e26 := xG_ ha 10 rfl (hon 15 rfl) rfl rfl
   replace ha := AZ.mk ha
   have HW := AZ.mk Q_HW
   have hc_ := rdc HW.out V.out
   refine Zg (w1 := w') (v := .slice (some bq) nB cB) (by rfl) rfl (by go_simp; (try simp only [i64_w]); try rfl) ?_
   refine hK.out _ _ ⟨g9, gT, m20_, m21_, (xI_ ha.out 11 hb_ rfl rfl rfl), Q_HW, Q_BZ, Q_LL, Q_NX, Q_G9, Q_GT, Q_B90, Q_B9, Q_BT0, xA_ (hoff 23 rfl), Q_X20_, Q_X21_⟩
  refine Za ?_ ?_
  ·rintro b a w' ⟨g9, gT, m20_, m21_, ha, Q_HW, Q_BZ, Q_LL, Q_NX, Q_G9, Q_GT, Q_B90, Q_B9, Q_BT0, Q_BT, Q_X20_, Q_X21_⟩ hb_ hon hoff
   refine ⟨_, rfl, fun K hK => ?_⟩
   have e27 := xG_ ha 11 rfl (hon 16 rfl) rfl rfl
   have e28 : a.tmps[28]? = some (.int .i64 t) := xH_ ha rfl rfl
   replace ha := AZ.mk ha
   refine Zg (w1 := w') (v := .pointer (some (bq.add (t.toNat * 2)))) (by rfl) rfl (by go_simp; (try simp only [i64_w]); try rfl) ?_
   refine hK.out _ _ ⟨g9, gT, m20_, m21_, (xI_ ha.out 12 hb_ rfl rfl rfl), Q_HW, Q_BZ, Q_LL, Q_NX, Q_G9, Q_GT, Q_B90, Q_B9, Q_BT0, xA_ (hoff 23 rfl), Q_X20_, Q_X21_⟩
  refine Za ?_ ?_
  ·rintro b a w' ⟨g9, gT, m20_, m21_, ha, Q_HW, Q_BZ, Q_LL, Q_NX, Q_G9, Q_GT, Q_B90, Q_B9, Q_BT0, Q_BT, Q_X20_, Q_X21_⟩ hb_ hon hoff
   refine ⟨_, rfl, fun K hK => ?_⟩
   have e29 := xG_ ha 12 rfl (hon 18 rfl) rfl rfl
   replace ha := AZ.mk ha
   have HW := AZ.mk Q_HW
   have hc_ := rdc HW.out V0.out
   have hd_ := rdc HW.out V1.out
   refine Zg (w1 := w') (v := .agg #[.int .i64 (Zb (Zd p3 y) t).f0, .int .i64 (Zb (Zd p3 y) t).f1]) (by rfl) rfl (by go_simp; (try simp only [i64_w]); try rfl) ?_
   refine hK.out _ _ ⟨g9, gT, m20_, m21_, (xI_ ha.out 13 hb_ rfl rfl rfl), Q_HW, Q_BZ, Q_LL, Q_NX, Q_G9, Q_GT, Q_B90, Q_B9, Q_BT0, xA_ (hoff 23 rfl), Q_X20_, Q_X21_⟩
  refine Za ?_ ?_
  ·rintro b a w' ⟨g9, gT, m20_, m21_, ha, Q_HW, Q_BZ, Q_LL, Q_NX, Q_G9, Q_GT, Q_B90, Q_B9, Q_BT0, Q_BT, Q_X20_, Q_X21_⟩ hb_ hon hoff
   refine ⟨_, rfl, fun K hK => ?_⟩
   replace ha := AZ.mk ha
   have HW := AZ.mk Q_HW
   have BZ := AZ.mk Q_BZ
   have LL := AZ.mk Q_LL
   refine Zg (w1 := ?_) (v := ?_) (by rfl) rfl ?_ ?_
   rotate_left 2
   ·go_simp
    constructor
    ·rfl
    ·rfl
   refine hK.out _ _ ⟨w'.heap.size, gT, (.pointer (some ⟨w'.heap.size, 0, none⟩)), m21_, (xI_ ha.out 14 hb_ rfl rfl rfl), pA HW.out _, ba_ BZ.out _, ⟨by rw [World.size_alloc]; have := LL.out; omega, by rw [World.size_alloc]; have := LL.out; omega⟩, Or.inl (by have := LL.out; omega), fun _ => Zv BZ.out, Q_GT, fun _ _ => heap_alloc_new w' _, xA_ (hoff 22 rfl), fun h0_ h1_ => ba_ (Q_BT0 h0_ h1_) _, xA_ (hoff 23 rfl), fun _ => rfl, Q_X21_⟩
  refine Za ?_ ?_
  ·rintro b a w' ⟨g9, gT, m20_, m21_, ha, Q_HW, Q_BZ, Q_LL, Q_NX, Q_G9, Q_GT, Q_B90, Q_B9, Q_BT0, Q_BT, Q_X20_, Q_X21_⟩ hb_ hon hoff
   refine ⟨_, rfl, fun K hK => ?_⟩
   replace ha := AZ.mk ha
   have HW := AZ.mk Q_HW
   have BZ := AZ.mk Q_BZ
   have LL := AZ.mk Q_LL
   refine Zg (w1 := ?_) (v := ?_) (by rfl) rfl ?_ ?_
   rotate_left 2
   ·go_simp
    constructor
    ·rfl
    ·rfl
   refine hK.out _ _ ⟨g9, w'.heap.size, m20_, (.pointer (some ⟨w'.heap.size, 0, none⟩)), (xI_ ha.out 15 hb_ rfl rfl rfl), pA HW.out _, ba_ BZ.out _, ⟨by rw [World.size_alloc]; have := LL.out; omega, by rw [World.size_alloc]; have := LL.out; omega⟩, Or.inl (by have := LL.out; omega), Q_G9, fun _ => Zv BZ.out, fun h0_ h1_ => ba_ (Q_B90 h0_ h1_) _, xA_ (hoff 22 rfl), fun _ _ => heap_alloc_new w' _, xA_ (hoff 23 rfl), Q_X20_, fun _ => rfl⟩
  refine Za ?_ ?_
  ·rintro b a w' ⟨g9, gT, m20_, m21_, ha, Q_HW, Q_BZ, Q_LL, Q_NX, Q_G9, Q_GT, Q_B90, Q_B9, Q_BT0, Q_BT, Q_X20_, Q_X21_⟩ hb_ hon hoff
   refine ⟨_, rfl, fun K hK => ?_⟩
   have e9 := xG_ ha 14 rfl (hon 20 rfl) rfl rfl
   rw [Q_X20_ (hon 20 rfl)] at e9
   have e20 := xG_ ha 6 rfl (hon 9 rfl) rfl rfl
   replace ha := AZ.mk ha
   have HW := AZ.mk Q_HW
   have BZ := AZ.mk Q_BZ
   have LL := AZ.mk Q_LL
   have NX := AZ.mk Q_NX
   have G9 := AZ.mk (Q_G9 (hon 20 rfl))
   have B90 := AZ.mk (Q_B90 (hon 20 rfl) hb_)
   have BT0 := AZ.mk (Q_BT0 (hon 21 rfl) (hoff 23 rfl))
   refine store47_step (by rfl) rfl 9 20 rfl (g := g9) (old := #[.int .i64 0, .int .i64 0]) (cs := #[.int .i64 (Zb (Zd l3 x) t).f0, .int .i64 (Zb (Zd l3 x) t).f1]) (Zt e9) (Zt e20) B90.out rfl rfl (two_one _ _) ?_
   intro w_ hbx hB hfar
   refine hK.out _ _ ⟨g9, gT, m20_, m21_, (xJ_ ha.out rfl), (hB _ _ HW.out (by have := GZ.out; have := G9.out; omega)), ((hfar _ (nL G9.out)).trans BZ.out), ⟨nM LL.out.1 (hB 0 _ (Below.refl 0 _) (Nat.zero_le _)).size, nM LL.out.2 (hB 0 _ (Below.refl 0 _) (Nat.zero_le _)).size⟩, Q_NX, Q_G9, Q_GT, xC_ (Yd b 22), fun _ => hbx, fun _ _ => ((hfar _ (show gT ≠ g9 by have := NX.out; have := G9.out; omega)).trans BT0.out), xA_ (hoff 23 rfl), Q_X20_, Q_X21_⟩
  refine Za ?_ ?_
  ·rintro b a w' ⟨g9, gT, m20_, m21_, ha, Q_HW, Q_BZ, Q_LL, Q_NX, Q_G9, Q_GT, Q_B90, Q_B9, Q_BT0, Q_BT, Q_X20_, Q_X21_⟩ hb_ hon hoff
   refine ⟨_, rfl, fun K hK => ?_⟩
   have e10 := xG_ ha 15 rfl (hon 21 rfl) rfl rfl
   rw [Q_X21_ (hon 21 rfl)] at e10
   have e30 := xG_ ha 13 rfl (hon 19 rfl) rfl rfl
   replace ha := AZ.mk ha
   have HW := AZ.mk Q_HW
   have BZ := AZ.mk Q_BZ
   have LL := AZ.mk Q_LL
   have NX := AZ.mk Q_NX
   have GT := AZ.mk (Q_GT (hon 21 rfl))
   have B9 := AZ.mk (Q_B9 (hon 22 rfl))
   have BT0 := AZ.mk (Q_BT0 (hon 21 rfl) hb_)
   refine store47_step (by rfl) rfl 10 30 rfl (g := gT) (old := #[.int .i64 0, .int .i64 0]) (cs := #[.int .i64 (Zb (Zd p3 y) t).f0, .int .i64 (Zb (Zd p3 y) t).f1]) (Zt e10) (Zt e30) BT0.out rfl rfl (two_one _ _) ?_
   intro w_ hbx hB hfar
   refine hK.out _ _ ⟨g9, gT, m20_, m21_, (xJ_ ha.out rfl), (hB _ _ HW.out (by have := GZ.out; have := GT.out; omega)), ((hfar _ (nL GT.out)).trans BZ.out), ⟨nM LL.out.1 (hB 0 _ (Below.refl 0 _) (Nat.zero_le _)).size, nM LL.out.2 (hB 0 _ (Below.refl 0 _) (Nat.zero_le _)).size⟩, Q_NX, Q_G9, Q_GT, xC_ (hon 22 rfl), fun _ => ((hfar _ (show g9 ≠ gT by have := NX.out; have := GT.out; omega)).trans B9.out), xC_ (Yd b 23), fun _ => hbx, Q_X20_, Q_X21_⟩
  exact steps_nil
 ·rintro b a w' hall ⟨g9, gT, m20_, m21_, ha, Q_HW, Q_BZ, Q_LL, Q_NX, Q_G9, Q_GT, Q_B90, Q_B9, Q_BT0, Q_BT, Q_X20_, Q_X21_⟩
  clear BZ HW LL NX
  have hb1_ := hall 1 (by kernel_rfl)
  have hb3_ := hall 3 (by kernel_rfl)
  have hb4_ := hall 4 (by kernel_rfl)
  have hb5_ := hall 5 (by kernel_rfl)
  have hb6_ := hall 6 (by kernel_rfl)
  have hb8_ := hall 8 (by kernel_rfl)
  have hb9_ := hall 9 (by kernel_rfl)
  have hb11_ := hall 11 (by kernel_rfl)
  have hb13_ := hall 13 (by kernel_rfl)
  have hb14_ := hall 14 (by kernel_rfl)
  have hb15_ := hall 15 (by kernel_rfl)
  have hb16_ := hall 16 (by kernel_rfl)
  have hb18_ := hall 18 (by kernel_rfl)
  have hb19_ := hall 19 (by kernel_rfl)
  have hb20_ := hall 20 (by kernel_rfl)
  have hb21_ := hall 21 (by kernel_rfl)
  have hb22_ := hall 22 (by kernel_rfl)
  have hb23_ := hall 23 (by kernel_rfl)
  subst ha
  obtain rfl := Q_X20_ hb20_
  obtain rfl := Q_X21_ hb21_
  simp only [Zz, hb1_, hb3_, hb4_, hb5_, hb6_, hb8_, hb9_, hb11_, hb13_, hb14_, hb15_, hb16_, hb18_, hb19_, hb20_, hb21_, hb22_, hb23_, if_true, Act.put, sA, sB, sC]
  have HW := AZ.mk Q_HW
  clear Q_HW
  have BZ := AZ.mk Q_BZ
  clear Q_BZ
  have LL := AZ.mk Q_LL
  clear Q_LL
  have NX := AZ.mk Q_NX
  clear Q_NX
  have G9 := AZ.mk (Q_G9 hb20_)
  clear Q_G9
  have GT := AZ.mk (Q_GT hb21_)
  clear Q_GT
  clear Q_B90
  have B9 := AZ.mk (Q_B9 hb22_)
  clear Q_B9
  clear Q_BT0
  have BT := AZ.mk (Q_BT hb23_)
  clear Q_BT
  clear hall hb1_ hb3_ hb4_ hb5_ hb6_ hb8_ hb9_ hb11_ hb13_ hb14_ hb15_ hb16_ hb18_ hb19_ hb20_ hb21_ hb22_ hb23_
  clear LL NX G9 GT hHeld HT_ HW_
  have y0 : w'.cell? ⟨g9, 0, none⟩ = some (.int .i64 (Zb (Zd l3 x) t).f0) := (bc B9.out 0).trans rfl
  have y1 : w'.cell? ⟨gT, 0, none⟩ = some (.int .i64 (Zb (Zd p3 y) t).f0) := (bc BT.out 0).trans rfl
  have y2 : w'.cell? ⟨g9, 1, none⟩ = some (.int .i64 (Zb (Zd l3 x) t).f1) := (bc B9.out 1).trans rfl
  have y3 : w'.cell? ⟨gT, 1, none⟩ = some (.int .i64 (Zb (Zd p3 y) t).f1) := (bc BT.out 1).trans rfl
  have y5 := rdc HW.out Kn.out
  have y6 := rdc HW.out Km.out
  go_wp2_with (first | ((with_reducible refine gate_ (.store 47 (.tmp 8) (.tmp 45)) rfl ?_); refine store47 rfl 8 45 rfl (g := gZ) (old := #[.int .i64 0, .int .i64 0]) (cs := #[.int .i64 (wrap64 ((wrap64 ((Zb (Zd l3 x) t).f0 * n)) + (Zb (Zd p3 y) t).f0)), .int .i64 (wrap64 ((wrap64 ((Zb (Zd l3 x) t).f1 * m')) + (Zb (Zd p3 y) t).f1))]) rfl rfl BZ.out rfl rfl (two_one _ _) ?_; intro w9 hbx hB hfar))
  refine bodyPost_ret (results_cell_row rfl _ _ gZ 47 #[.int .i64 (wrap64 ((wrap64 ((Zb (Zd l3 x) t).f0 * n)) + (Zb (Zd p3 y) t).f0)), .int .i64 (wrap64 ((wrap64 ((Zb (Zd l3 x) t).f1 * m')) + (Zb (Zd p3 y) t).f1))] (0, 0) _ rfl hbx Try.underlying47 rfl (by kernel_rfl)) rfl ?_
  exact ⟨rfl, hB _ _ HW.out GZ.out⟩
theorem clo2_calls {mn mm : Nat} (gC gN gD gM : Nat) (m st : Int) (A2 : Option Addr) (c2 : Nat) (l2 : List Bool) (A3 : Option Addr) (c3 : Nat) (l3 : List (List S47)) (A4 : Option Addr) (c4 : Nat) (l4 : List (List (List Int))) (A5 : Option Addr) (c5 : Nat) (l5 : List (List Int)) (m' st' : Int) (B2 : Option Addr) (d2 : Nat) (p2 : List Bool) (B3 : Option Addr) (d3 : Nat) (p3 : List (List S47)) (B4 : Option Addr) (d4 : Nat) (p4 : List (List (List Int))) (B5 : Option Addr) (d5 : Nat) (p5 : List (List Int)) (i q : Nat) (w : World) (hC : CH w A2 c2 l2 A3 c3 l3 A4 c4 l4 A5 c5 l5) (hD : CH w B2 d2 p2 B3 d3 p3 B4 d4 p4 B5 d5 p5) (bC : w.heap[gC]? = some (.cells #[.int .i64 m, .int .i64 st, .slice A2 l2.length c2, .slice A3 l3.length c3, .slice A4 l4.length c4, .slice A5 l5.length c5] 27 (0, 0))) (bN : w.heap[gN]? = some (.cells #[.int .i64 (p2.length : Int)] 2 (0, 0))) (bD : w.heap[gD]? = some (.cells #[.int .i64 m', .int .i64 st', .slice B2 p2.length d2, .slice B3 p3.length d3, .slice B4 p4.length d4, .slice B5 p5.length d5] 27 (0, 0))) (bM : w.heap[gM]? = some (.cells #[.int .i64 m'] 2 (0, 0))) (h : Sh mn l2 l3 l4 l5) (h' : Sh mm p2 p3 p4 p5) (hm : m' = (mm : Int)) (hn : 0 < p2.length) (hi : i < l2.length * p2.length) (hq : q < 2) :
  Calls Try.prog 111 #[.int .i64 (i : Int), .int .i64 (q : Int), .pointer (some ⟨gC, 0, none⟩), .pointer (some ⟨gN, 0, none⟩), .pointer (some ⟨gD, 0, none⟩), .pointer (some ⟨gM, 0, none⟩)] w fun e W' => e = .returned (.agg #[.int .i64 (pcall p2.length mm l3 p3 i q).f0, .int .i64 (pcall p2.length mm l3 p3 i q).f1]) ∧ Below w.heap.size w W' := by
 obtain ⟨k1, k2, k3⟩ := clo_lt h h' hn hi
 have := h.c
 have := h'.c
 subst hm
 exact clo2_walk gC gN gD gM m st A2 c2 l2 A3 c3 l3 A4 c4 l4 A5 c5 l5 (mm : Int) st' B2 d2 p2 B3 d3 p3 B4 d4 p4 B5 d5 p5 (i : Int) (q : Int) (p2.length : Int) _ _ w hC hD bC bN bD bM (by omega) (tdivN _ _ k3) (tmodN _ _) ⟨Int.natCast_nonneg _, by omega⟩ ⟨Int.natCast_nonneg _, by omega⟩ ⟨by omega, by omega⟩ (h.at3 rfl k1) (h'.at3 rfl k2)
end Go.Proofs.Ytepkfigcnnfoaaa.P
namespace Go.Proofs.Ytepkfigcnnfoaaa.P
open Go.RowKit Go.Proofs.YtepkfigcnnfoaaaW.PrintWords Go.Proofs.YtepkfigcnnfoaaaW.PrintLast Go.Proofs.YtepkfigcnnfoaaaW.PrintMore
attribute [local go_sem] Zn Zp Zw Zx Zj Zk Zq Zr
def laws_szBoolS.f (l0 : List Bool) (a1 : Int) : Option (Int) := if (wrap64 (a1 - (l0.length : Int))) < 0 then (some (-1)) else (some (wrap64 (a1 - (l0.length : Int))))
theorem laws_szBoolS.calls (A0 : Option Addr) (c0 : Nat) (l0 : List Bool) (a1 : Int) (r : Int) (w : World) (hr0 : Kd.C Kd.bool w A0 l0.length l0) (hc0 : l0.length ≤ c0) (h : laws_szBoolS.f l0 a1 = some r) :
  Calls Try.prog 66 #[.slice A0 l0.length c0, .int .i64 a1] w fun e w' => e = .returned (.int .i64 r) ∧ Drawn0 w w' := by
 have HR0 := AZ.mk hr0
 have HC0 := AZ.mk hc0
 clear hr0 hc0
 have H : (if (wrap64 (a1 - (l0.length : Int))) < 0 then (some (-1)) else (some (wrap64 (a1 - (l0.length : Int))))) = some r := h
 clear h
 by_cases c3 : (wrap64 (a1 - (l0.length : Int))) < 0
 ·rw [if_pos c3] at H
  have c3b0 : decide ((wrap64 (a1 - (l0.length : Int))) < 0) = true := dT c3
  clear c3
  obtain rfl := oJ H
  go_enter Try.func66, Try.ntmps66
  go_wp2
  go_ret
  exact ⟨by first | rfl | (simp; done) | (simp [*]; done), by repeat (first | exact Drawn0.refl _ | apply Drawn0.step)⟩
 rw [if_neg c3] at H
 have c3b0 : decide ((wrap64 (a1 - (l0.length : Int))) < 0) = false := dF c3
 clear c3
 obtain rfl := oJ H
 go_enter Try.func66, Try.ntmps66
 go_wp2
 go_ret
 exact ⟨by first | rfl | (simp; done) | (simp [*]; done), by repeat (first | exact Drawn0.refl _ | apply Drawn0.step)⟩
attribute [local go_sem] Zn Zp Zw Zx Zj Zk Zq Zr
def laws_szPushS.f (l0 : List (S101)) (a1 : Int) : Option (Int) := if (wrap64 (a1 - (l0.length : Int))) < 0 then (some (-1)) else (some (wrap64 (a1 - (l0.length : Int))))
theorem laws_szPushS.calls (A0 : Option Addr) (c0 : Nat) (l0 : List (S101)) (a1 : Int) (r : Int) (w : World) (hr0 : Kd.C k101 w A0 l0.length l0) (hc0 : l0.length ≤ c0) (h : laws_szPushS.f l0 a1 = some r) :
  Calls Try.prog 91 #[.slice A0 l0.length c0, .int .i64 a1] w fun e w' => e = .returned (.int .i64 r) ∧ Drawn0 w w' := by
 have HR0 := AZ.mk hr0
 have HC0 := AZ.mk hc0
 clear hr0 hc0
 have H : (if (wrap64 (a1 - (l0.length : Int))) < 0 then (some (-1)) else (some (wrap64 (a1 - (l0.length : Int))))) = some r := h
 clear h
 by_cases c3 : (wrap64 (a1 - (l0.length : Int))) < 0
 ·rw [if_pos c3] at H
  have c3b0 : decide ((wrap64 (a1 - (l0.length : Int))) < 0) = true := dT c3
  clear c3
  obtain rfl := oJ H
  go_enter Try.func91, Try.ntmps91
  go_wp2
  go_ret
  exact ⟨by first | rfl | (simp; done) | (simp [*]; done), by repeat (first | exact Drawn0.refl _ | apply Drawn0.step)⟩
 rw [if_neg c3] at H
 have c3b0 : decide ((wrap64 (a1 - (l0.length : Int))) < 0) = false := dF c3
 clear c3
 obtain rfl := oJ H
 go_enter Try.func91, Try.ntmps91
 go_wp2
 go_ret
 exact ⟨by first | rfl | (simp; done) | (simp [*]; done), by repeat (first | exact Drawn0.refl _ | apply Drawn0.step)⟩
attribute [local go_sem] Zn Zp Zw Zx Zj Zk Zq Zr
def laws_szPushSS.l0 : Nat → List (List (S101)) → Int → Int → Option (Int)
 | 0, _, _, _ => none
 | k + 1, x0, x1, x5 => if x5 < (x0.length : Int) then (if 0 ≤ x5 then ((laws_szPushS.f (rd_L9 x0 x5) x1).bind fun t315 => (if t315 < 0 then (some (-1)) else (laws_szPushSS.l0 k x0 t315 (wrap64 (x5 + 1))))) else (none)) else (some x1)
def laws_szPushSS.f (k : Nat) (l0 : List (List (S101))) (a1 : Int) : Option (Int) := if (wrap64 (a1 - (l0.length : Int))) < 0 then (some (-1)) else (laws_szPushSS.l0 k l0 (wrap64 (a1 - (l0.length : Int))) 0)
theorem laws_szPushSS.calls (k : Nat) (A0 : Option Addr) (c0 : Nat) (l0 : List (List (S101))) (a1 : Int) (r : Int) (w : World) (hr0 : Kd.C (Kd.slice 101 k101) w A0 l0.length l0) (hc0 : l0.length ≤ c0) (h : laws_szPushSS.f k l0 a1 = some r) :
  Calls Try.prog 67 #[.slice A0 l0.length c0, .int .i64 a1] w fun e w' => e = .returned (.int .i64 r) ∧ Drawn0 w w' := by
 have HR0 := AZ.mk hr0
 have HC0 := AZ.mk hc0
 clear hr0 hc0
 have H : (if (wrap64 (a1 - (l0.length : Int))) < 0 then (some (-1)) else (laws_szPushSS.l0 k l0 (wrap64 (a1 - (l0.length : Int))) 0)) = some r := h
 clear h
 by_cases c3 : (wrap64 (a1 - (l0.length : Int))) < 0
 ·rw [if_pos c3] at H
  have c3b0 : decide ((wrap64 (a1 - (l0.length : Int))) < 0) = true := dT c3
  clear c3
  obtain rfl := oJ H
  go_enter Try.func67, Try.ntmps67
  go_wp2
  go_ret
  exact ⟨by first | rfl | (simp; done) | (simp [*]; done), by repeat (first | exact Drawn0.refl _ | apply Drawn0.step)⟩
 rw [if_neg c3] at H
 have c3b0 : decide ((wrap64 (a1 - (l0.length : Int))) < 0) = false := dF c3
 clear c3
 have H' := AZ.mk H
 clear H
 go_enter Try.func67, Try.ntmps67
 go_wp2
 go_loopg [1, 5] k (fun kq v1 v5 w' => ∃ (x1_1 : Int) (x5_1 : Int), v1 = .int .i64 x1_1 ∧ v5 = .int .i64 x5_1 ∧ AZ (laws_szPushSS.l0 kq l0 x1_1 x5_1 = some r) ∧ AZ (kq ≤ k) ∧ Drawn0 w w')
 case atStart => exact ⟨(wrap64 (a1 - (l0.length : Int))), (0), (by first | rfl | (simp; done) | (simp [*]; done)), (by first | rfl | (simp; done) | (simp [*]; done)), H', ⟨Nat.le_refl _⟩, by repeat (first | exact Drawn0.refl _ | apply Drawn0.step)⟩
 case round =>
  clear H'
  try clear p2
  try clear c3
  try clear c3b0
  obtain ⟨x1_1, x5_1, rfl, rfl, HA, HK1, ⟨m1, rfl⟩⟩ := hrel
  cases gk with
  | zero => exact absurd HA.out (by simp [laws_szPushSS.l0])
  | succ k1 =>
   have H := HA.out
   clear HA
   simp only [laws_szPushSS.l0] at H
   by_cases c4 : x5_1 < (l0.length : Int)
   rotate_left
   ·rw [if_neg c4] at H
    have c4b0 : decide (x5_1 < (l0.length : Int)) = false := dF c4
    clear c4
    obtain rfl := oJ H
    go_wp2
    go_ret
    exact ⟨by first | rfl | (simp; done) | (simp [*]; done), by repeat (first | exact Drawn0.refl _ | apply Drawn0.step)⟩
   rw [if_pos c4] at H
   have c4b0 : decide (x5_1 < (l0.length : Int)) = true := dT c4
   clear c4
   by_cases c5 : 0 ≤ x5_1
   rotate_left
   ·rw [if_neg c5] at H
    exact absurd H (by simp)
   rw [if_pos c5] at H
   have c5b0 : decide (0 ≤ x5_1) = true := dT c5
   clear c5
   replace H := Option.bind_eq_some_iff.mp H
   obtain ⟨t315, A60, H⟩ := H
   replace H : (if t315 < 0 then (some (-1)) else (laws_szPushSS.l0 k1 l0 t315 (wrap64 (x5_1 + 1)))) = some r := H
   have A6 := AZ.mk A60
   clear A60
   by_cases c7 : t315 < 0
   ·rw [if_pos c7] at H
    have c7b0 : decide (t315 < 0) = true := dT c7
    clear c7
    obtain rfl := oJ H
    have p314 : 0 ≤ (x5_1 : Int) := oT (by first | (with_reducible assumption) | assumption)
    have q314 : x5_1 < (l0.length : Int) := oT (by first | (with_reducible assumption) | assumption)
    obtain ⟨ad314, A314_0, c314_0, e314, hx314_0, hl314_0, hi314_0⟩ := at_L9 HR0.out x5_1 p314 q314
    cases e314
    have HR314_0 := AZ.mk hi314_0
    have HC314_0 := AZ.mk hl314_0
    clear hi314_0 hl314_0
    replace p314 := eq_true p314
    replace q314 := eq_true q314
    go_wp2_with (first | ((with_reducible refine gate_callee (f := 91) rfl ?_); refine Zi (some 23) rfl rfl Try.func91 (by kernel_rfl) rfl #[.slice A314_0 (rd_L9 l0 x5_1).length c314_0, .int .i64 x1_1] rfl (by (try simp only [mA, mB, mC]); first | done | rfl | (simp only [lD, lT]; rfl)) ?_; (with_reducible refine (laws_szPushS.calls _ _ (rd_L9 l0 x5_1) x1_1 t315 _ ?side1 ?side2 A6.out).mono ?_); (case side1 => repeat (first | exact HR314_0.out | (with_reducible refine Kd.C_alloc ?_ _) | (with_reducible refine Kd.C_drewN ?_ _) | (with_reducible refine Kd.C_drew ?_))); (case side2 => exact HC314_0.out); rintro e w' ⟨rfl, ⟨nd, rfl⟩⟩; refine ⟨_, rfl, ?_⟩))
    go_ret
    exact ⟨by first | rfl | (simp; done) | (simp [*]; done), by repeat (first | exact Drawn0.refl _ | apply Drawn0.step)⟩
   rw [if_neg c7] at H
   have c7b0 : decide (t315 < 0) = false := dF c7
   clear c7
   have H' := AZ.mk H
   clear H
   have p314 : 0 ≤ (x5_1 : Int) := oT (by first | (with_reducible assumption) | assumption)
   have q314 : x5_1 < (l0.length : Int) := oT (by first | (with_reducible assumption) | assumption)
   obtain ⟨ad314, A314_0, c314_0, e314, hx314_0, hl314_0, hi314_0⟩ := at_L9 HR0.out x5_1 p314 q314
   cases e314
   have HR314_0 := AZ.mk hi314_0
   have HC314_0 := AZ.mk hl314_0
   clear hi314_0 hl314_0
   replace p314 := eq_true p314
   replace q314 := eq_true q314
   go_wp2_with (first | ((with_reducible refine gate_callee (f := 91) rfl ?_); refine Zi (some 23) rfl rfl Try.func91 (by kernel_rfl) rfl #[.slice A314_0 (rd_L9 l0 x5_1).length c314_0, .int .i64 x1_1] rfl (by (try simp only [mA, mB, mC]); first | done | rfl | (simp only [lD, lT]; rfl)) ?_; (with_reducible refine (laws_szPushS.calls _ _ (rd_L9 l0 x5_1) x1_1 t315 _ ?side1 ?side2 A6.out).mono ?_); (case side1 => repeat (first | exact HR314_0.out | (with_reducible refine Kd.C_alloc ?_ _) | (with_reducible refine Kd.C_drewN ?_ _) | (with_reducible refine Kd.C_drew ?_))); (case side2 => exact HC314_0.out); rintro e w' ⟨rfl, ⟨nd, rfl⟩⟩; refine ⟨_, rfl, ?_⟩))
   go_roundg k1
   case measure => have := HK1.out; omega
   case rel => exact ⟨(t315), (wrap64 (x5_1 + 1)), (by first | rfl | (simp; done) | (simp [*]; done)), (by first | rfl | (simp; done) | (simp [*]; done)), H', ⟨by have := HK1.out; omega⟩, by repeat (first | exact Drawn0.refl _ | apply Drawn0.step)⟩
attribute [local go_sem] Zn Zp Zw Zx Zj Zk Zq Zr
def laws_szInt64S.f (l0 : List Int) (a1 : Int) : Option (Int) := if (wrap64 (a1 - (l0.length : Int))) < 0 then (some (-1)) else (some (wrap64 (a1 - (l0.length : Int))))
theorem laws_szInt64S.calls (A0 : Option Addr) (c0 : Nat) (l0 : List Int) (a1 : Int) (r : Int) (w : World) (hr0 : Kd.C (Kd.int .i64) w A0 l0.length l0) (hc0 : l0.length ≤ c0) (h : laws_szInt64S.f l0 a1 = some r) :
  Calls Try.prog 92 #[.slice A0 l0.length c0, .int .i64 a1] w fun e w' => e = .returned (.int .i64 r) ∧ Drawn0 w w' := by
 have HR0 := AZ.mk hr0
 have HC0 := AZ.mk hc0
 clear hr0 hc0
 have H : (if (wrap64 (a1 - (l0.length : Int))) < 0 then (some (-1)) else (some (wrap64 (a1 - (l0.length : Int))))) = some r := h
 clear h
 by_cases c3 : (wrap64 (a1 - (l0.length : Int))) < 0
 ·rw [if_pos c3] at H
  have c3b0 : decide ((wrap64 (a1 - (l0.length : Int))) < 0) = true := dT c3
  clear c3
  obtain rfl := oJ H
  go_enter Try.func92, Try.ntmps92
  go_wp2
  go_ret
  exact ⟨by first | rfl | (simp; done) | (simp [*]; done), by repeat (first | exact Drawn0.refl _ | apply Drawn0.step)⟩
 rw [if_neg c3] at H
 have c3b0 : decide ((wrap64 (a1 - (l0.length : Int))) < 0) = false := dF c3
 clear c3
 obtain rfl := oJ H
 go_enter Try.func92, Try.ntmps92
 go_wp2
 go_ret
 exact ⟨by first | rfl | (simp; done) | (simp [*]; done), by repeat (first | exact Drawn0.refl _ | apply Drawn0.step)⟩
attribute [local go_sem] Zn Zp Zw Zx Zj Zk Zq Zr
def laws_szInt64SS.l0 : Nat → List (List Int) → Int → Int → Option (Int)
 | 0, _, _, _ => none
 | k + 1, x0, x1, x5 => if x5 < (x0.length : Int) then (if 0 ≤ x5 then ((laws_szInt64S.f (rd_L4 x0 x5) x1).bind fun t317 => (if t317 < 0 then (some (-1)) else (laws_szInt64SS.l0 k x0 t317 (wrap64 (x5 + 1))))) else (none)) else (some x1)
def laws_szInt64SS.f (k : Nat) (l0 : List (List Int)) (a1 : Int) : Option (Int) := if (wrap64 (a1 - (l0.length : Int))) < 0 then (some (-1)) else (laws_szInt64SS.l0 k l0 (wrap64 (a1 - (l0.length : Int))) 0)
theorem laws_szInt64SS.calls (k : Nat) (A0 : Option Addr) (c0 : Nat) (l0 : List (List Int)) (a1 : Int) (r : Int) (w : World) (hr0 : Kd.C (Kd.slice 2 (Kd.int .i64)) w A0 l0.length l0) (hc0 : l0.length ≤ c0) (h : laws_szInt64SS.f k l0 a1 = some r) :
  Calls Try.prog 69 #[.slice A0 l0.length c0, .int .i64 a1] w fun e w' => e = .returned (.int .i64 r) ∧ Drawn0 w w' := by
 have HR0 := AZ.mk hr0
 have HC0 := AZ.mk hc0
 clear hr0 hc0
 have H : (if (wrap64 (a1 - (l0.length : Int))) < 0 then (some (-1)) else (laws_szInt64SS.l0 k l0 (wrap64 (a1 - (l0.length : Int))) 0)) = some r := h
 clear h
 by_cases c3 : (wrap64 (a1 - (l0.length : Int))) < 0
 ·rw [if_pos c3] at H
  have c3b0 : decide ((wrap64 (a1 - (l0.length : Int))) < 0) = true := dT c3
  clear c3
  obtain rfl := oJ H
  go_enter Try.func69, Try.ntmps69
  go_wp2
  go_ret
  exact ⟨by first | rfl | (simp; done) | (simp [*]; done), by repeat (first | exact Drawn0.refl _ | apply Drawn0.step)⟩
 rw [if_neg c3] at H
 have c3b0 : decide ((wrap64 (a1 - (l0.length : Int))) < 0) = false := dF c3
 clear c3
 have H' := AZ.mk H
 clear H
 go_enter Try.func69, Try.ntmps69
 go_wp2
 go_loopg [1, 5] k (fun kq v1 v5 w' => ∃ (x1_1 : Int) (x5_1 : Int), v1 = .int .i64 x1_1 ∧ v5 = .int .i64 x5_1 ∧ AZ (laws_szInt64SS.l0 kq l0 x1_1 x5_1 = some r) ∧ AZ (kq ≤ k) ∧ Drawn0 w w')
 case atStart => exact ⟨(wrap64 (a1 - (l0.length : Int))), (0), (by first | rfl | (simp; done) | (simp [*]; done)), (by first | rfl | (simp; done) | (simp [*]; done)), H', ⟨Nat.le_refl _⟩, by repeat (first | exact Drawn0.refl _ | apply Drawn0.step)⟩
 case round =>
  clear H'
  try clear p2
  try clear c3
  try clear c3b0
  obtain ⟨x1_1, x5_1, rfl, rfl, HA, HK1, ⟨m1, rfl⟩⟩ := hrel
  cases gk with
  | zero => exact absurd HA.out (by simp [laws_szInt64SS.l0])
  | succ k1 =>
   have H := HA.out
   clear HA
   simp only [laws_szInt64SS.l0] at H
   by_cases c4 : x5_1 < (l0.length : Int)
   rotate_left
   ·rw [if_neg c4] at H
    have c4b0 : decide (x5_1 < (l0.length : Int)) = false := dF c4
    clear c4
    obtain rfl := oJ H
    go_wp2
    go_ret
    exact ⟨by first | rfl | (simp; done) | (simp [*]; done), by repeat (first | exact Drawn0.refl _ | apply Drawn0.step)⟩
   rw [if_pos c4] at H
   have c4b0 : decide (x5_1 < (l0.length : Int)) = true := dT c4
   clear c4
   by_cases c5 : 0 ≤ x5_1
   rotate_left
   ·rw [if_neg c5] at H
    exact absurd H (by simp)
   rw [if_pos c5] at H
   have c5b0 : decide (0 ≤ x5_1) = true := dT c5
   clear c5
   replace H := Option.bind_eq_some_iff.mp H
   obtain ⟨t317, A60, H⟩ := H
   replace H : (if t317 < 0 then (some (-1)) else (laws_szInt64SS.l0 k1 l0 t317 (wrap64 (x5_1 + 1)))) = some r := H
   have A6 := AZ.mk A60
   clear A60
   by_cases c7 : t317 < 0
   ·rw [if_pos c7] at H
    have c7b0 : decide (t317 < 0) = true := dT c7
    clear c7
    obtain rfl := oJ H
    have p316 : 0 ≤ (x5_1 : Int) := oT (by first | (with_reducible assumption) | assumption)
    have q316 : x5_1 < (l0.length : Int) := oT (by first | (with_reducible assumption) | assumption)
    obtain ⟨ad316, A316_0, c316_0, e316, hx316_0, hl316_0, hi316_0⟩ := at_L4 HR0.out x5_1 p316 q316
    cases e316
    have HR316_0 := AZ.mk hi316_0
    have HC316_0 := AZ.mk hl316_0
    clear hi316_0 hl316_0
    replace p316 := eq_true p316
    replace q316 := eq_true q316
    go_wp2_with (first | ((with_reducible refine gate_callee (f := 92) rfl ?_); refine Zi (some 23) rfl rfl Try.func92 (by kernel_rfl) rfl #[.slice A316_0 (rd_L4 l0 x5_1).length c316_0, .int .i64 x1_1] rfl (by (try simp only [mA, mB, mC]); first | done | rfl | (simp only [lD, lT]; rfl)) ?_; (with_reducible refine (laws_szInt64S.calls _ _ (rd_L4 l0 x5_1) x1_1 t317 _ ?side1 ?side2 A6.out).mono ?_); (case side1 => repeat (first | exact HR316_0.out | (with_reducible refine Kd.C_alloc ?_ _) | (with_reducible refine Kd.C_drewN ?_ _) | (with_reducible refine Kd.C_drew ?_))); (case side2 => exact HC316_0.out); rintro e w' ⟨rfl, ⟨nd, rfl⟩⟩; refine ⟨_, rfl, ?_⟩))
    go_ret
    exact ⟨by first | rfl | (simp; done) | (simp [*]; done), by repeat (first | exact Drawn0.refl _ | apply Drawn0.step)⟩
   rw [if_neg c7] at H
   have c7b0 : decide (t317 < 0) = false := dF c7
   clear c7
   have H' := AZ.mk H
   clear H
   have p316 : 0 ≤ (x5_1 : Int) := oT (by first | (with_reducible assumption) | assumption)
   have q316 : x5_1 < (l0.length : Int) := oT (by first | (with_reducible assumption) | assumption)
   obtain ⟨ad316, A316_0, c316_0, e316, hx316_0, hl316_0, hi316_0⟩ := at_L4 HR0.out x5_1 p316 q316
   cases e316
   have HR316_0 := AZ.mk hi316_0
   have HC316_0 := AZ.mk hl316_0
   clear hi316_0 hl316_0
   replace p316 := eq_true p316
   replace q316 := eq_true q316
   go_wp2_with (first | ((with_reducible refine gate_callee (f := 92) rfl ?_); refine Zi (some 23) rfl rfl Try.func92 (by kernel_rfl) rfl #[.slice A316_0 (rd_L4 l0 x5_1).length c316_0, .int .i64 x1_1] rfl (by (try simp only [mA, mB, mC]); first | done | rfl | (simp only [lD, lT]; rfl)) ?_; (with_reducible refine (laws_szInt64S.calls _ _ (rd_L4 l0 x5_1) x1_1 t317 _ ?side1 ?side2 A6.out).mono ?_); (case side1 => repeat (first | exact HR316_0.out | (with_reducible refine Kd.C_alloc ?_ _) | (with_reducible refine Kd.C_drewN ?_ _) | (with_reducible refine Kd.C_drew ?_))); (case side2 => exact HC316_0.out); rintro e w' ⟨rfl, ⟨nd, rfl⟩⟩; refine ⟨_, rfl, ?_⟩))
   go_roundg k1
   case measure => have := HK1.out; omega
   case rel => exact ⟨(t317), (wrap64 (x5_1 + 1)), (by first | rfl | (simp; done) | (simp [*]; done)), (by first | rfl | (simp; done) | (simp [*]; done)), H', ⟨by have := HK1.out; omega⟩, by repeat (first | exact Drawn0.refl _ | apply Drawn0.step)⟩
attribute [local go_sem] Zn Zp Zw Zx Zj Zk Zq Zr
def laws_szInt64SSS.l0 : Nat → List (List (List Int)) → Int → Int → Option (Int)
 | 0, _, _, _ => none
 | k + 1, x0, x1, x5 => if x5 < (x0.length : Int) then (if 0 ≤ x5 then ((laws_szInt64SS.f k (rd_L5 x0 x5) x1).bind fun t319 => (if t319 < 0 then (some (-1)) else (laws_szInt64SSS.l0 k x0 t319 (wrap64 (x5 + 1))))) else (none)) else (some x1)
def laws_szInt64SSS.f (k : Nat) (l0 : List (List (List Int))) (a1 : Int) : Option (Int) := if (wrap64 (a1 - (l0.length : Int))) < 0 then (some (-1)) else (laws_szInt64SSS.l0 k l0 (wrap64 (a1 - (l0.length : Int))) 0)
theorem laws_szInt64SSS.calls (k : Nat) (A0 : Option Addr) (c0 : Nat) (l0 : List (List (List Int))) (a1 : Int) (r : Int) (w : World) (hr0 : Kd.C (Kd.slice 49 (Kd.slice 2 (Kd.int .i64))) w A0 l0.length l0) (hc0 : l0.length ≤ c0) (h : laws_szInt64SSS.f k l0 a1 = some r) :
  Calls Try.prog 68 #[.slice A0 l0.length c0, .int .i64 a1] w fun e w' => e = .returned (.int .i64 r) ∧ Drawn0 w w' := by
 have HR0 := AZ.mk hr0
 have HC0 := AZ.mk hc0
 clear hr0 hc0
 have H : (if (wrap64 (a1 - (l0.length : Int))) < 0 then (some (-1)) else (laws_szInt64SSS.l0 k l0 (wrap64 (a1 - (l0.length : Int))) 0)) = some r := h
 clear h
 by_cases c3 : (wrap64 (a1 - (l0.length : Int))) < 0
 ·rw [if_pos c3] at H
  have c3b0 : decide ((wrap64 (a1 - (l0.length : Int))) < 0) = true := dT c3
  clear c3
  obtain rfl := oJ H
  go_enter Try.func68, Try.ntmps68
  go_wp2
  go_ret
  exact ⟨by first | rfl | (simp; done) | (simp [*]; done), by repeat (first | exact Drawn0.refl _ | apply Drawn0.step)⟩
 rw [if_neg c3] at H
 have c3b0 : decide ((wrap64 (a1 - (l0.length : Int))) < 0) = false := dF c3
 clear c3
 have H' := AZ.mk H
 clear H
 go_enter Try.func68, Try.ntmps68
 go_wp2
 go_loopg [1, 5] k (fun kq v1 v5 w' => ∃ (x1_1 : Int) (x5_1 : Int), v1 = .int .i64 x1_1 ∧ v5 = .int .i64 x5_1 ∧ AZ (laws_szInt64SSS.l0 kq l0 x1_1 x5_1 = some r) ∧ AZ (kq ≤ k) ∧ Drawn0 w w')
 case atStart => exact ⟨(wrap64 (a1 - (l0.length : Int))), (0), (by first | rfl | (simp; done) | (simp [*]; done)), (by first | rfl | (simp; done) | (simp [*]; done)), H', ⟨Nat.le_refl _⟩, by repeat (first | exact Drawn0.refl _ | apply Drawn0.step)⟩
 case round =>
  clear H'
  try clear p2
  try clear c3
  try clear c3b0
  obtain ⟨x1_1, x5_1, rfl, rfl, HA, HK1, ⟨m1, rfl⟩⟩ := hrel
  cases gk with
  | zero => exact absurd HA.out (by simp [laws_szInt64SSS.l0])
  | succ k1 =>
   have H := HA.out
   clear HA
   simp only [laws_szInt64SSS.l0] at H
   by_cases c4 : x5_1 < (l0.length : Int)
   rotate_left
   ·rw [if_neg c4] at H
    have c4b0 : decide (x5_1 < (l0.length : Int)) = false := dF c4
    clear c4
    obtain rfl := oJ H
    go_wp2
    go_ret
    exact ⟨by first | rfl | (simp; done) | (simp [*]; done), by repeat (first | exact Drawn0.refl _ | apply Drawn0.step)⟩
   rw [if_pos c4] at H
   have c4b0 : decide (x5_1 < (l0.length : Int)) = true := dT c4
   clear c4
   by_cases c5 : 0 ≤ x5_1
   rotate_left
   ·rw [if_neg c5] at H
    exact absurd H (by simp)
   rw [if_pos c5] at H
   have c5b0 : decide (0 ≤ x5_1) = true := dT c5
   clear c5
   replace H := Option.bind_eq_some_iff.mp H
   obtain ⟨t319, A60, H⟩ := H
   replace H : (if t319 < 0 then (some (-1)) else (laws_szInt64SSS.l0 k1 l0 t319 (wrap64 (x5_1 + 1)))) = some r := H
   have A6 := AZ.mk A60
   clear A60
   by_cases c7 : t319 < 0
   ·rw [if_pos c7] at H
    have c7b0 : decide (t319 < 0) = true := dT c7
    clear c7
    obtain rfl := oJ H
    have p318 : 0 ≤ (x5_1 : Int) := oT (by first | (with_reducible assumption) | assumption)
    have q318 : x5_1 < (l0.length : Int) := oT (by first | (with_reducible assumption) | assumption)
    obtain ⟨ad318, A318_0, c318_0, e318, hx318_0, hl318_0, hi318_0⟩ := at_L5 HR0.out x5_1 p318 q318
    cases e318
    have HR318_0 := AZ.mk hi318_0
    have HC318_0 := AZ.mk hl318_0
    clear hi318_0 hl318_0
    replace p318 := eq_true p318
    replace q318 := eq_true q318
    go_wp2_with (first | ((with_reducible refine gate_callee (f := 69) rfl ?_); refine Zi (some 23) rfl rfl Try.func69 (by kernel_rfl) rfl #[.slice A318_0 (rd_L5 l0 x5_1).length c318_0, .int .i64 x1_1] rfl (by (try simp only [mA, mB, mC]); first | done | rfl | (simp only [lD, lT]; rfl)) ?_; (with_reducible refine (laws_szInt64SS.calls k1 _ _ (rd_L5 l0 x5_1) x1_1 t319 _ ?side1 ?side2 A6.out).mono ?_); (case side1 => repeat (first | exact HR318_0.out | (with_reducible refine Kd.C_alloc ?_ _) | (with_reducible refine Kd.C_drewN ?_ _) | (with_reducible refine Kd.C_drew ?_))); (case side2 => exact HC318_0.out); rintro e w' ⟨rfl, ⟨nd, rfl⟩⟩; refine ⟨_, rfl, ?_⟩))
    go_ret
    exact ⟨by first | rfl | (simp; done) | (simp [*]; done), by repeat (first | exact Drawn0.refl _ | apply Drawn0.step)⟩
   rw [if_neg c7] at H
   have c7b0 : decide (t319 < 0) = false := dF c7
   clear c7
   have H' := AZ.mk H
   clear H
   have p318 : 0 ≤ (x5_1 : Int) := oT (by first | (with_reducible assumption) | assumption)
   have q318 : x5_1 < (l0.length : Int) := oT (by first | (with_reducible assumption) | assumption)
   obtain ⟨ad318, A318_0, c318_0, e318, hx318_0, hl318_0, hi318_0⟩ := at_L5 HR0.out x5_1 p318 q318
   cases e318
   have HR318_0 := AZ.mk hi318_0
   have HC318_0 := AZ.mk hl318_0
   clear hi318_0 hl318_0
   replace p318 := eq_true p318
   replace q318 := eq_true q318
   go_wp2_with (first | ((with_reducible refine gate_callee (f := 69) rfl ?_); refine Zi (some 23) rfl rfl Try.func69 (by kernel_rfl) rfl #[.slice A318_0 (rd_L5 l0 x5_1).length c318_0, .int .i64 x1_1] rfl (by (try simp only [mA, mB, mC]); first | done | rfl | (simp only [lD, lT]; rfl)) ?_; (with_reducible refine (laws_szInt64SS.calls k1 _ _ (rd_L5 l0 x5_1) x1_1 t319 _ ?side1 ?side2 A6.out).mono ?_); (case side1 => repeat (first | exact HR318_0.out | (with_reducible refine Kd.C_alloc ?_ _) | (with_reducible refine Kd.C_drewN ?_ _) | (with_reducible refine Kd.C_drew ?_))); (case side2 => exact HC318_0.out); rintro e w' ⟨rfl, ⟨nd, rfl⟩⟩; refine ⟨_, rfl, ?_⟩))
   go_roundg k1
   case measure => have := HK1.out; omega
   case rel => exact ⟨(t319), (wrap64 (x5_1 + 1)), (by first | rfl | (simp; done) | (simp [*]; done)), (by first | rfl | (simp; done) | (simp [*]; done)), H', ⟨by have := HK1.out; omega⟩, by repeat (first | exact Drawn0.refl _ | apply Drawn0.step)⟩
attribute [local go_sem] Zn Zp Zw Zx Zj Zk Zq Zr
def laws_szChecker.f (k : Nat) (a0_0 : Int) (a0_1 : Int) (l0_2 : List Bool) (l0_3 : List (List (S101))) (l0_4 : List (List (List Int))) (l0_5 : List (List Int)) (a1 : Int) : Option (Int) := (laws_szBoolS.f l0_2 a1).bind fun t321 => (if t321 < 0 then (some (-1)) else ((laws_szPushSS.f k l0_3 t321).bind fun t322 => (if t322 < 0 then (some (-1)) else ((laws_szInt64SSS.f k l0_4 t322).bind fun t323 => (if t323 < 0 then (some (-1)) else ((laws_szInt64SS.f k l0_5 t323).bind fun t324 => (if t324 < 0 then (some (-1)) else (some t324))))))))
theorem laws_szChecker.calls (k : Nat) (a0_0 : Int) (a0_1 : Int) (A0_2 : Option Addr) (c0_2 : Nat) (l0_2 : List Bool) (A0_3 : Option Addr) (c0_3 : Nat) (l0_3 : List (List (S101))) (A0_4 : Option Addr) (c0_4 : Nat) (l0_4 : List (List (List Int))) (A0_5 : Option Addr) (c0_5 : Nat) (l0_5 : List (List Int)) (a1 : Int) (r : Int) (w : World) (hr0_2 : Kd.C Kd.bool w A0_2 l0_2.length l0_2) (hc0_2 : l0_2.length ≤ c0_2) (hr0_3 : Kd.C (Kd.slice 101 k101) w A0_3 l0_3.length l0_3) (hc0_3 : l0_3.length ≤ c0_3) (hr0_4 : Kd.C (Kd.slice 49 (Kd.slice 2 (Kd.int .i64))) w A0_4 l0_4.length l0_4) (hc0_4 : l0_4.length ≤ c0_4) (hr0_5 : Kd.C (Kd.slice 2 (Kd.int .i64)) w A0_5 l0_5.length l0_5) (hc0_5 : l0_5.length ≤ c0_5) (h : laws_szChecker.f k a0_0 a0_1 l0_2 l0_3 l0_4 l0_5 a1 = some r) :
  Calls Try.prog 21 #[.agg #[.int .i64 a0_0, .int .i64 a0_1, .slice A0_2 l0_2.length c0_2, .slice A0_3 l0_3.length c0_3, .slice A0_4 l0_4.length c0_4, .slice A0_5 l0_5.length c0_5], .int .i64 a1] w fun e w' => e = .returned (.int .i64 r) ∧ Below w.heap.size w w' := by
 have hu39 := Try.underlying39
 have HR0_2 := AZ.mk hr0_2
 have HC0_2 := AZ.mk hc0_2
 clear hr0_2 hc0_2
 have HR0_3 := AZ.mk hr0_3
 have HC0_3 := AZ.mk hc0_3
 clear hr0_3 hc0_3
 have HR0_4 := AZ.mk hr0_4
 have HC0_4 := AZ.mk hc0_4
 clear hr0_4 hc0_4
 have HR0_5 := AZ.mk hr0_5
 have HC0_5 := AZ.mk hc0_5
 clear hr0_5 hc0_5
 have HB := AZ.mk (Below.refl w.heap.size w)
 have H : ((laws_szBoolS.f l0_2 a1).bind fun t321 => (if t321 < 0 then (some (-1)) else ((laws_szPushSS.f k l0_3 t321).bind fun t322 => (if t322 < 0 then (some (-1)) else ((laws_szInt64SSS.f k l0_4 t322).bind fun t323 => (if t323 < 0 then (some (-1)) else ((laws_szInt64SS.f k l0_5 t323).bind fun t324 => (if t324 < 0 then (some (-1)) else (some t324))))))))) = some r := h
 clear h
 replace H := Option.bind_eq_some_iff.mp H
 obtain ⟨t321, A30, H⟩ := H
 replace H : (if t321 < 0 then (some (-1)) else ((laws_szPushSS.f k l0_3 t321).bind fun t322 => (if t322 < 0 then (some (-1)) else ((laws_szInt64SSS.f k l0_4 t322).bind fun t323 => (if t323 < 0 then (some (-1)) else ((laws_szInt64SS.f k l0_5 t323).bind fun t324 => (if t324 < 0 then (some (-1)) else (some t324)))))))) = some r := H
 have A3 := AZ.mk A30
 clear A30
 by_cases c4 : t321 < 0
 ·rw [if_pos c4] at H
  have c4b0 : decide (t321 < 0) = true := dT c4
  clear c4
  obtain rfl := oJ H
  go_enter Try.func21, Try.ntmps21
  go_wp2_with (first | ((with_reducible refine Zc (N := 2) rfl ?_); refine Zh ?hg (N := 2) ?hd (cs := #[.int .i64 a0_0, .int .i64 a0_1, .slice A0_2 l0_2.length c0_2, .slice A0_3 l0_3.length c0_3, .slice A0_4 l0_4.length c0_4, .slice A0_5 l0_5.length c0_5]) (t := 39) ?hr ?_; (case hd => rfl); (case hg => rfl); (case hr => first | (go_simp; done) | (go_simp; rfl)); intro gb320 hg w5 hbox hb; have n0_ := AZ.mk (pT (by repeat (first | (with_reducible first | exact HB.out | apply pA | apply pN | apply pD) | exact HB.out)) hb); have n1_ := AZ.mk (hbox); have n2_ := AZ.mk ((by rw [hg]; exact (pZ (by repeat (first | (with_reducible first | exact HB.out | apply pA | apply pN | apply pD) | exact HB.out))) : w.heap.size ≤ gb320)); have n3_ := AZ.mk ((by rw [hg]; exact (pZ (by repeat (first | (with_reducible first | exact HB.out | apply pA | apply pN | apply pD) | exact HB.out))) : w.heap.size ≤ gb320)); clear HB; have HB := n0_; have BK320 := n1_; have GW320 := n2_; have GE320 := n3_; clear n0_ n1_ n2_ n3_; clear hb hbox hg; obtain ⟨hcz6_0, hcz6_1, hcz6_2, hcz6_3, hcz6_4, hcz6_5⟩ := c6 BK320.out; obtain ⟨hfz6_0, hfz6_1, hfz6_2, hfz6_3, hfz6_4, hfz6_5⟩ := f6 BK320.out) | ((with_reducible refine gate_callee (f := 66) rfl ?_); refine Zi (some 8) rfl rfl Try.func66 (by kernel_rfl) rfl #[.slice A0_2 l0_2.length c0_2, .int .i64 a1] rfl (by (try simp only [mA, mB, mC]); first | done | rfl | (simp only [lD, lT]; rfl)) ?_; (with_reducible refine (laws_szBoolS.calls _ _ l0_2 a1 t321 _ ?side1 ?side2 A3.out).mono ?_); (case side1 => repeat (first | exact (Kd.C_below HR0_2.out HB.out) | (with_reducible refine Kd.C_alloc ?_ _) | (with_reducible refine Kd.C_drewN ?_ _) | (with_reducible refine Kd.C_drew ?_))); (case side2 => exact HC0_2.out); rintro e w' ⟨rfl, ⟨nd, rfl⟩⟩; refine ⟨_, rfl, ?_⟩))
  go_ret
  exact ⟨by first | rfl | (simp [Ze, Zf] <;> rfl) | (simp [*, Ze, Zf] <;> rfl), by repeat (first | (with_reducible first | exact HB.out | apply pA | apply pN | apply pD | refine pS ?_ GE320.out) | exact HB.out)⟩
 rw [if_neg c4] at H
 have c4b0 : decide (t321 < 0) = false := dF c4
 clear c4
 replace H := Option.bind_eq_some_iff.mp H
 obtain ⟨t322, A70, H⟩ := H
 replace H : (if t322 < 0 then (some (-1)) else ((laws_szInt64SSS.f k l0_4 t322).bind fun t323 => (if t323 < 0 then (some (-1)) else ((laws_szInt64SS.f k l0_5 t323).bind fun t324 => (if t324 < 0 then (some (-1)) else (some t324)))))) = some r := H
 have A7 := AZ.mk A70
 clear A70
 by_cases c8 : t322 < 0
 ·rw [if_pos c8] at H
  have c8b0 : decide (t322 < 0) = true := dT c8
  clear c8
  obtain rfl := oJ H
  go_enter Try.func21, Try.ntmps21
  go_wp2_with (first | ((with_reducible refine Zc (N := 2) rfl ?_); refine Zh ?hg (N := 2) ?hd (cs := #[.int .i64 a0_0, .int .i64 a0_1, .slice A0_2 l0_2.length c0_2, .slice A0_3 l0_3.length c0_3, .slice A0_4 l0_4.length c0_4, .slice A0_5 l0_5.length c0_5]) (t := 39) ?hr ?_; (case hd => rfl); (case hg => rfl); (case hr => first | (go_simp; done) | (go_simp; rfl)); intro gb320 hg w9 hbox hb; have n0_ := AZ.mk (pT (by repeat (first | (with_reducible first | exact HB.out | apply pA | apply pN | apply pD) | exact HB.out)) hb); have n1_ := AZ.mk (hbox); have n2_ := AZ.mk ((by rw [hg]; exact (pZ (by repeat (first | (with_reducible first | exact HB.out | apply pA | apply pN | apply pD) | exact HB.out))) : w.heap.size ≤ gb320)); have n3_ := AZ.mk ((by rw [hg]; exact (pZ (by repeat (first | (with_reducible first | exact HB.out | apply pA | apply pN | apply pD) | exact HB.out))) : w.heap.size ≤ gb320)); clear HB; have HB := n0_; have BK320 := n1_; have GW320 := n2_; have GE320 := n3_; clear n0_ n1_ n2_ n3_; clear hb hbox hg; obtain ⟨hcz10_0, hcz10_1, hcz10_2, hcz10_3, hcz10_4, hcz10_5⟩ := c6 BK320.out; obtain ⟨hfz10_0, hfz10_1, hfz10_2, hfz10_3, hfz10_4, hfz10_5⟩ := f6 BK320.out) | ((with_reducible refine gate_callee (f := 66) rfl ?_); refine Zi (some 8) rfl rfl Try.func66 (by kernel_rfl) rfl #[.slice A0_2 l0_2.length c0_2, .int .i64 a1] rfl (by (try simp only [mA, mB, mC]); first | done | rfl | (simp only [lD, lT]; rfl)) ?_; (with_reducible refine (laws_szBoolS.calls _ _ l0_2 a1 t321 _ ?side1 ?side2 A3.out).mono ?_); (case side1 => repeat (first | exact (Kd.C_below HR0_2.out HB.out) | (with_reducible refine Kd.C_alloc ?_ _) | (with_reducible refine Kd.C_drewN ?_ _) | (with_reducible refine Kd.C_drew ?_))); (case side2 => exact HC0_2.out); rintro e w' ⟨rfl, ⟨nd, rfl⟩⟩; refine ⟨_, rfl, ?_⟩) | ((with_reducible refine gate_callee (f := 67) rfl ?_); refine Zi (some 14) rfl rfl Try.func67 (by kernel_rfl) rfl #[.slice A0_3 l0_3.length c0_3, .int .i64 t321] rfl (by (try simp only [mA, mB, mC]); first | done | rfl | (simp only [lD, lT]; rfl)) ?_; (with_reducible refine (laws_szPushSS.calls k _ _ l0_3 t321 t322 _ ?side1 ?side2 A7.out).mono ?_); (case side1 => repeat (first | exact (Kd.C_below HR0_3.out (by repeat (first | (with_reducible first | exact HB.out | apply pA | apply pN | apply pD | refine pS ?_ GE320.out) | exact HB.out))) | (with_reducible refine Kd.C_alloc ?_ _) | (with_reducible refine Kd.C_drewN ?_ _) | (with_reducible refine Kd.C_drew ?_))); (case side2 => exact HC0_3.out); rintro e w' ⟨rfl, ⟨nd, rfl⟩⟩; refine ⟨_, rfl, ?_⟩))
  go_ret
  exact ⟨by first | rfl | (simp [Ze, Zf] <;> rfl) | (simp [*, Ze, Zf] <;> rfl), by repeat (first | (with_reducible first | exact HB.out | apply pA | apply pN | apply pD | refine pS ?_ GE320.out) | exact HB.out)⟩
 rw [if_neg c8] at H
 have c8b0 : decide (t322 < 0) = false := dF c8
 clear c8
 replace H := Option.bind_eq_some_iff.mp H
 obtain ⟨t323, A110, H⟩ := H
 replace H : (if t323 < 0 then (some (-1)) else ((laws_szInt64SS.f k l0_5 t323).bind fun t324 => (if t324 < 0 then (some (-1)) else (some t324)))) = some r := H
 have A11 := AZ.mk A110
 clear A110
 by_cases c12 : t323 < 0
 ·rw [if_pos c12] at H
  have c12b0 : decide (t323 < 0) = true := dT c12
  clear c12
  obtain rfl := oJ H
  go_enter Try.func21, Try.ntmps21
  go_wp2_with (first | ((with_reducible refine Zc (N := 2) rfl ?_); refine Zh ?hg (N := 2) ?hd (cs := #[.int .i64 a0_0, .int .i64 a0_1, .slice A0_2 l0_2.length c0_2, .slice A0_3 l0_3.length c0_3, .slice A0_4 l0_4.length c0_4, .slice A0_5 l0_5.length c0_5]) (t := 39) ?hr ?_; (case hd => rfl); (case hg => rfl); (case hr => first | (go_simp; done) | (go_simp; rfl)); intro gb320 hg w13 hbox hb; have n0_ := AZ.mk (pT (by repeat (first | (with_reducible first | exact HB.out | apply pA | apply pN | apply pD) | exact HB.out)) hb); have n1_ := AZ.mk (hbox); have n2_ := AZ.mk ((by rw [hg]; exact (pZ (by repeat (first | (with_reducible first | exact HB.out | apply pA | apply pN | apply pD) | exact HB.out))) : w.heap.size ≤ gb320)); have n3_ := AZ.mk ((by rw [hg]; exact (pZ (by repeat (first | (with_reducible first | exact HB.out | apply pA | apply pN | apply pD) | exact HB.out))) : w.heap.size ≤ gb320)); clear HB; have HB := n0_; have BK320 := n1_; have GW320 := n2_; have GE320 := n3_; clear n0_ n1_ n2_ n3_; clear hb hbox hg; obtain ⟨hcz14_0, hcz14_1, hcz14_2, hcz14_3, hcz14_4, hcz14_5⟩ := c6 BK320.out; obtain ⟨hfz14_0, hfz14_1, hfz14_2, hfz14_3, hfz14_4, hfz14_5⟩ := f6 BK320.out) | ((with_reducible refine gate_callee (f := 66) rfl ?_); refine Zi (some 8) rfl rfl Try.func66 (by kernel_rfl) rfl #[.slice A0_2 l0_2.length c0_2, .int .i64 a1] rfl (by (try simp only [mA, mB, mC]); first | done | rfl | (simp only [lD, lT]; rfl)) ?_; (with_reducible refine (laws_szBoolS.calls _ _ l0_2 a1 t321 _ ?side1 ?side2 A3.out).mono ?_); (case side1 => repeat (first | exact (Kd.C_below HR0_2.out HB.out) | (with_reducible refine Kd.C_alloc ?_ _) | (with_reducible refine Kd.C_drewN ?_ _) | (with_reducible refine Kd.C_drew ?_))); (case side2 => exact HC0_2.out); rintro e w' ⟨rfl, ⟨nd, rfl⟩⟩; refine ⟨_, rfl, ?_⟩) | ((with_reducible refine gate_callee (f := 67) rfl ?_); refine Zi (some 14) rfl rfl Try.func67 (by kernel_rfl) rfl #[.slice A0_3 l0_3.length c0_3, .int .i64 t321] rfl (by (try simp only [mA, mB, mC]); first | done | rfl | (simp only [lD, lT]; rfl)) ?_; (with_reducible refine (laws_szPushSS.calls k _ _ l0_3 t321 t322 _ ?side1 ?side2 A7.out).mono ?_); (case side1 => repeat (first | exact (Kd.C_below HR0_3.out (by repeat (first | (with_reducible first | exact HB.out | apply pA | apply pN | apply pD | refine pS ?_ GE320.out) | exact HB.out))) | (with_reducible refine Kd.C_alloc ?_ _) | (with_reducible refine Kd.C_drewN ?_ _) | (with_reducible refine Kd.C_drew ?_))); (case side2 => exact HC0_3.out); rintro e w' ⟨rfl, ⟨nd, rfl⟩⟩; refine ⟨_, rfl, ?_⟩) | ((with_reducible refine gate_callee (f := 68) rfl ?_); refine Zi (some 20) rfl rfl Try.func68 (by kernel_rfl) rfl #[.slice A0_4 l0_4.length c0_4, .int .i64 t322] rfl (by (try simp only [mA, mB, mC]); first | done | rfl | (simp only [lD, lT]; rfl)) ?_; (with_reducible refine (laws_szInt64SSS.calls k _ _ l0_4 t322 t323 _ ?side1 ?side2 A11.out).mono ?_); (case side1 => repeat (first | exact (Kd.C_below HR0_4.out (by repeat (first | (with_reducible first | exact HB.out | apply pA | apply pN | apply pD | refine pS ?_ GE320.out) | exact HB.out))) | (with_reducible refine Kd.C_alloc ?_ _) | (with_reducible refine Kd.C_drewN ?_ _) | (with_reducible refine Kd.C_drew ?_))); (case side2 => exact HC0_4.out); rintro e w' ⟨rfl, ⟨nd, rfl⟩⟩; refine ⟨_, rfl, ?_⟩))
  go_ret
  exact ⟨by first | rfl | (simp [Ze, Zf] <;> rfl) | (simp [*, Ze, Zf] <;> rfl), by repeat (first | (with_reducible first | exact HB.out | apply pA | apply pN | apply pD | refine pS ?_ GE320.out) | exact HB.out)⟩
 rw [if_neg c12] at H
 have c12b0 : decide (t323 < 0) = false := dF c12
 clear c12
 replace H := Option.bind_eq_some_iff.mp H
 obtain ⟨t324, A150, H⟩ := H
 replace H : (if t324 < 0 then (some (-1)) else (some t324)) = some r := H
 have A15 := AZ.mk A150
 clear A150
 by_cases c16 : t324 < 0
 ·rw [if_pos c16] at H
  have c16b0 : decide (t324 < 0) = true := dT c16
  clear c16
  obtain rfl := oJ H
  go_enter Try.func21, Try.ntmps21
  go_wp2_with (first | ((with_reducible refine Zc (N := 2) rfl ?_); refine Zh ?hg (N := 2) ?hd (cs := #[.int .i64 a0_0, .int .i64 a0_1, .slice A0_2 l0_2.length c0_2, .slice A0_3 l0_3.length c0_3, .slice A0_4 l0_4.length c0_4, .slice A0_5 l0_5.length c0_5]) (t := 39) ?hr ?_; (case hd => rfl); (case hg => rfl); (case hr => first | (go_simp; done) | (go_simp; rfl)); intro gb320 hg w17 hbox hb; have n0_ := AZ.mk (pT (by repeat (first | (with_reducible first | exact HB.out | apply pA | apply pN | apply pD) | exact HB.out)) hb); have n1_ := AZ.mk (hbox); have n2_ := AZ.mk ((by rw [hg]; exact (pZ (by repeat (first | (with_reducible first | exact HB.out | apply pA | apply pN | apply pD) | exact HB.out))) : w.heap.size ≤ gb320)); have n3_ := AZ.mk ((by rw [hg]; exact (pZ (by repeat (first | (with_reducible first | exact HB.out | apply pA | apply pN | apply pD) | exact HB.out))) : w.heap.size ≤ gb320)); clear HB; have HB := n0_; have BK320 := n1_; have GW320 := n2_; have GE320 := n3_; clear n0_ n1_ n2_ n3_; clear hb hbox hg; obtain ⟨hcz18_0, hcz18_1, hcz18_2, hcz18_3, hcz18_4, hcz18_5⟩ := c6 BK320.out; obtain ⟨hfz18_0, hfz18_1, hfz18_2, hfz18_3, hfz18_4, hfz18_5⟩ := f6 BK320.out) | ((with_reducible refine gate_callee (f := 66) rfl ?_); refine Zi (some 8) rfl rfl Try.func66 (by kernel_rfl) rfl #[.slice A0_2 l0_2.length c0_2, .int .i64 a1] rfl (by (try simp only [mA, mB, mC]); first | done | rfl | (simp only [lD, lT]; rfl)) ?_; (with_reducible refine (laws_szBoolS.calls _ _ l0_2 a1 t321 _ ?side1 ?side2 A3.out).mono ?_); (case side1 => repeat (first | exact (Kd.C_below HR0_2.out HB.out) | (with_reducible refine Kd.C_alloc ?_ _) | (with_reducible refine Kd.C_drewN ?_ _) | (with_reducible refine Kd.C_drew ?_))); (case side2 => exact HC0_2.out); rintro e w' ⟨rfl, ⟨nd, rfl⟩⟩; refine ⟨_, rfl, ?_⟩) | ((with_reducible refine gate_callee (f := 67) rfl ?_); refine Zi (some 14) rfl rfl Try.func67 (by kernel_rfl) rfl #[.slice A0_3 l0_3.length c0_3, .int .i64 t321] rfl (by (try simp only [mA, mB, mC]); first | done | rfl | (simp only [lD, lT]; rfl)) ?_; (with_reducible refine (laws_szPushSS.calls k _ _ l0_3 t321 t322 _ ?side1 ?side2 A7.out).mono ?_); (case side1 => repeat (first | exact (Kd.C_below HR0_3.out (by repeat (first | (with_reducible first | exact HB.out | apply pA | apply pN | apply pD | refine pS ?_ GE320.out) | exact HB.out))) | (with_reducible refine Kd.C_alloc ?_ _) | (with_reducible refine Kd.C_drewN ?_ _) | (with_reducible refine Kd.C_drew ?_))); (case side2 => exact HC0_3.out); rintro e w' ⟨rfl, ⟨nd, rfl⟩⟩; refine ⟨_, rfl, ?_⟩) | ((with_reducible refine gate_callee (f := 68) rfl ?_); refine Zi (some 20) rfl rfl Try.func68 (by kernel_rfl) rfl #[.slice A0_4 l0_4.length c0_4, .int .i64 t322] rfl (by (try simp only [mA, mB, mC]); first | done | rfl | (simp only [lD, lT]; rfl)) ?_; (with_reducible refine (laws_szInt64SSS.calls k _ _ l0_4 t322 t323 _ ?side1 ?side2 A11.out).mono ?_); (case side1 => repeat (first | exact (Kd.C_below HR0_4.out (by repeat (first | (with_reducible first | exact HB.out | apply pA | apply pN | apply pD | refine pS ?_ GE320.out) | exact HB.out))) | (with_reducible refine Kd.C_alloc ?_ _) | (with_reducible refine Kd.C_drewN ?_ _) | (with_reducible refine Kd.C_drew ?_))); (case side2 => exact HC0_4.out); rintro e w' ⟨rfl, ⟨nd, rfl⟩⟩; refine ⟨_, rfl, ?_⟩) | ((with_reducible refine gate_callee (f := 69) rfl ?_); refine Zi (some 26) rfl rfl Try.func69 (by kernel_rfl) rfl #[.slice A0_5 l0_5.length c0_5, .int .i64 t323] rfl (by (try simp only [mA, mB, mC]); first | done | rfl | (simp only [lD, lT]; rfl)) ?_; (with_reducible refine (laws_szInt64SS.calls k _ _ l0_5 t323 t324 _ ?side1 ?side2 A15.out).mono ?_); (case side1 => repeat (first | exact (Kd.C_below HR0_5.out (by repeat (first | (with_reducible first | exact HB.out | apply pA | apply pN | apply pD | refine pS ?_ GE320.out) | exact HB.out))) | (with_reducible refine Kd.C_alloc ?_ _) | (with_reducible refine Kd.C_drewN ?_ _) | (with_reducible refine Kd.C_drew ?_))); (case side2 => exact HC0_5.out); rintro e w' ⟨rfl, ⟨nd, rfl⟩⟩; refine ⟨_, rfl, ?_⟩))
  go_ret
  exact ⟨by first | rfl | (simp [Ze, Zf] <;> rfl) | (simp [*, Ze, Zf] <;> rfl), by repeat (first | (with_reducible first | exact HB.out | apply pA | apply pN | apply pD | refine pS ?_ GE320.out) | exact HB.out)⟩
 rw [if_neg c16] at H
 have c16b0 : decide (t324 < 0) = false := dF c16
 clear c16
 obtain rfl := oJ H
 go_enter Try.func21, Try.ntmps21
 go_wp2_with (first | ((with_reducible refine Zc (N := 2) rfl ?_); refine Zh ?hg (N := 2) ?hd (cs := #[.int .i64 a0_0, .int .i64 a0_1, .slice A0_2 l0_2.length c0_2, .slice A0_3 l0_3.length c0_3, .slice A0_4 l0_4.length c0_4, .slice A0_5 l0_5.length c0_5]) (t := 39) ?hr ?_; (case hd => rfl); (case hg => rfl); (case hr => first | (go_simp; done) | (go_simp; rfl)); intro gb320 hg w19 hbox hb; have n0_ := AZ.mk (pT (by repeat (first | (with_reducible first | exact HB.out | apply pA | apply pN | apply pD) | exact HB.out)) hb); have n1_ := AZ.mk (hbox); have n2_ := AZ.mk ((by rw [hg]; exact (pZ (by repeat (first | (with_reducible first | exact HB.out | apply pA | apply pN | apply pD) | exact HB.out))) : w.heap.size ≤ gb320)); have n3_ := AZ.mk ((by rw [hg]; exact (pZ (by repeat (first | (with_reducible first | exact HB.out | apply pA | apply pN | apply pD) | exact HB.out))) : w.heap.size ≤ gb320)); clear HB; have HB := n0_; have BK320 := n1_; have GW320 := n2_; have GE320 := n3_; clear n0_ n1_ n2_ n3_; clear hb hbox hg; obtain ⟨hcz20_0, hcz20_1, hcz20_2, hcz20_3, hcz20_4, hcz20_5⟩ := c6 BK320.out; obtain ⟨hfz20_0, hfz20_1, hfz20_2, hfz20_3, hfz20_4, hfz20_5⟩ := f6 BK320.out) | ((with_reducible refine gate_callee (f := 66) rfl ?_); refine Zi (some 8) rfl rfl Try.func66 (by kernel_rfl) rfl #[.slice A0_2 l0_2.length c0_2, .int .i64 a1] rfl (by (try simp only [mA, mB, mC]); first | done | rfl | (simp only [lD, lT]; rfl)) ?_; (with_reducible refine (laws_szBoolS.calls _ _ l0_2 a1 t321 _ ?side1 ?side2 A3.out).mono ?_); (case side1 => repeat (first | exact (Kd.C_below HR0_2.out HB.out) | (with_reducible refine Kd.C_alloc ?_ _) | (with_reducible refine Kd.C_drewN ?_ _) | (with_reducible refine Kd.C_drew ?_))); (case side2 => exact HC0_2.out); rintro e w' ⟨rfl, ⟨nd, rfl⟩⟩; refine ⟨_, rfl, ?_⟩) | ((with_reducible refine gate_callee (f := 67) rfl ?_); refine Zi (some 14) rfl rfl Try.func67 (by kernel_rfl) rfl #[.slice A0_3 l0_3.length c0_3, .int .i64 t321] rfl (by (try simp only [mA, mB, mC]); first | done | rfl | (simp only [lD, lT]; rfl)) ?_; (with_reducible refine (laws_szPushSS.calls k _ _ l0_3 t321 t322 _ ?side1 ?side2 A7.out).mono ?_); (case side1 => repeat (first | exact (Kd.C_below HR0_3.out (by repeat (first | (with_reducible first | exact HB.out | apply pA | apply pN | apply pD | refine pS ?_ GE320.out) | exact HB.out))) | (with_reducible refine Kd.C_alloc ?_ _) | (with_reducible refine Kd.C_drewN ?_ _) | (with_reducible refine Kd.C_drew ?_))); (case side2 => exact HC0_3.out); rintro e w' ⟨rfl, ⟨nd, rfl⟩⟩; refine ⟨_, rfl, ?_⟩) | ((with_reducible refine gate_callee (f := 68) rfl ?_); refine Zi (some 20) rfl rfl Try.func68 (by kernel_rfl) rfl #[.slice A0_4 l0_4.length c0_4, .int .i64 t322] rfl (by (try simp only [mA, mB, mC]); first | done | rfl | (simp only [lD, lT]; rfl)) ?_; (with_reducible refine (laws_szInt64SSS.calls k _ _ l0_4 t322 t323 _ ?side1 ?side2 A11.out).mono ?_); (case side1 => repeat (first | exact (Kd.C_below HR0_4.out (by repeat (first | (with_reducible first | exact HB.out | apply pA | apply pN | apply pD | refine pS ?_ GE320.out) | exact HB.out))) | (with_reducible refine Kd.C_alloc ?_ _) | (with_reducible refine Kd.C_drewN ?_ _) | (with_reducible refine Kd.C_drew ?_))); (case side2 => exact HC0_4.out); rintro e w' ⟨rfl, ⟨nd, rfl⟩⟩; refine ⟨_, rfl, ?_⟩) | ((with_reducible refine gate_callee (f := 69) rfl ?_); refine Zi (some 26) rfl rfl Try.func69 (by kernel_rfl) rfl #[.slice A0_5 l0_5.length c0_5, .int .i64 t323] rfl (by (try simp only [mA, mB, mC]); first | done | rfl | (simp only [lD, lT]; rfl)) ?_; (with_reducible refine (laws_szInt64SS.calls k _ _ l0_5 t323 t324 _ ?side1 ?side2 A15.out).mono ?_); (case side1 => repeat (first | exact (Kd.C_below HR0_5.out (by repeat (first | (with_reducible first | exact HB.out | apply pA | apply pN | apply pD | refine pS ?_ GE320.out) | exact HB.out))) | (with_reducible refine Kd.C_alloc ?_ _) | (with_reducible refine Kd.C_drewN ?_ _) | (with_reducible refine Kd.C_drew ?_))); (case side2 => exact HC0_5.out); rintro e w' ⟨rfl, ⟨nd, rfl⟩⟩; refine ⟨_, rfl, ?_⟩))
 go_ret
 exact ⟨by first | rfl | (simp [Ze, Zf] <;> rfl) | (simp [*, Ze, Zf] <;> rfl), by repeat (first | (with_reducible first | exact HB.out | apply pA | apply pN | apply pD | refine pS ?_ GE320.out) | exact HB.out)⟩
end Go.Proofs.Ytepkfigcnnfoaaa.P
