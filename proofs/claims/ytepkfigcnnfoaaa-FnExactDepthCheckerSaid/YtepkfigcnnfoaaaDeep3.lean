/- Literals with elements, and rows that calls hand over. Written by a program of this session (mkdeep3.py). -/
import Derived.Test.YtepkfigcnnfoaaaDeep2
namespace Go.Proofs.Ytepkfigcnnfoaaa.Deep
open Go.RowKit Go.Proofs.YtepkfigcnnfoaaaW.PrintWords Go.Proofs.YtepkfigcnnfoaaaW.PrintLast Go.Proofs.YtepkfigcnnfoaaaW.PrintMore
set_option linter.unusedVariables false
set_option linter.unusedSimpArgs false
section
variable {P : Program} {ops : Array Oper} {rest : List Oper} {o : Oper} {a : Act} {Q : Exit → Act → World → Prop} {Kc : Act → World → Prop}
variable {α : Type} {dP : Kd α} {tA tP tC tL tI tR tK : Nat} {w0 W w1 : World} {gC gZ : Nat} {cC cZ : Array Value} {vA vC vR vI vc vb vi vl : Value} {LA : List Bool} {LC : List (List α)} {LR : List (List (List Int))} {LI : List (List Int)} {lc : List α} {lb : List (List Int)} {li ll : List Int}
theorem All.litx_c (hT : Apart dP tA tP tC tL tI tR tK) (h : All dP tA tP tC tL tI tR tK w0 W gC gZ cC cZ vA vC vR vI (.slice none 0 0) vb vi vl LA LC LR LI [] lb li ll) (hw : Region.wanted o (yielded ops a.tmps) = true) {N : Tmp} (hd : o.dst = some N) (xs : List α) (inner : List Value)
    (hrun : (execOp a.eval o).run P W = .ok (.value (.slice (some ⟨W.heap.size, 0, none⟩) xs.length xs.length)) (W.alloc (.cells inner.toArray tP))) (hrep : Reps (dP.M W w0.heap.size (fun _ => False)) dP.sz xs inner) (hm : xs.length ≤ 9223372036854775807)
    (k : ∀ v1 w1, All dP tA tP tC tL tI tR tK w0 w1 gC gZ cC cZ vA vC vR vI v1 vb vi vl LA LC LR LI xs lb li ll → (∀ (j : Nat) (o9 : Obj), W.heap[j]? = some o9 → w1.heap[j]? = some o9) → Kc (a.put o.dst v1) w1) : if Region.wanted o (yielded ops a.tmps) = true then Oper.wp P o a W Kc Q else Kc (a.put o.dst undef) W := by
  have hle := h.le
  obtain ⟨hB, hC, hZ, hg, f, h0, h1, h2, h3, h4, h5, h6, h7⟩ := h
  refine Kd.R_lit_step dP (w0 := w0) w0.heap.size tP hw hd (xs := xs) (inner := inner) (ok := tg (upT f W.heap.size 4) 4) (okp := fun _ => False) hrun hrep (fun _ hk => hk.elim) (upT_ge (Nat.le_refl _)) hB hle hm ?_
  intro v1 w1 hr hb hgr _
  have no : ∀ i k, (none : Option Nat) = some k → f k ≠ i := fun _ _ e => by cases e
  exact k v1 w1 ⟨hb, blk_grown hC hgr (by simp), blk_grown hZ hgr (by simp), hg, upT f W.heap.size 4, R_carry h0 hgr (no 0) (fun k hk e => (upT_lt hk).trans e), S_carry h1 hgr (no 1) (fun k hk e => (upT_lt hk).trans e), S_carry h2 hgr (no 2) (fun k hk e => (upT_lt hk).trans e), S_carry h3 hgr (no 3) (fun k hk e => (upT_lt hk).trans e), hr, S_carry h5 hgr (no 5) (fun k hk e => (upT_lt hk).trans e), R_carry h6 hgr (no 6) (fun k hk e => (upT_lt hk).trans e), R_carry h7 hgr (no 7) (fun k hk e => (upT_lt hk).trans e)⟩ (fun j o9 hj => blk_grown hj hgr (by simp))
theorem All.litx_i (hT : Apart dP tA tP tC tL tI tR tK) (h : All dP tA tP tC tL tI tR tK w0 W gC gZ cC cZ vA vC vR vI vc vb (.slice none 0 0) vl LA LC LR LI lc lb [] ll) (hw : Region.wanted o (yielded ops a.tmps) = true) {N : Tmp} (hd : o.dst = some N) (xs : List Int) (inner : List Value)
    (hrun : (execOp a.eval o).run P W = .ok (.value (.slice (some ⟨W.heap.size, 0, none⟩) xs.length xs.length)) (W.alloc (.cells inner.toArray tL))) (hrep : Reps ((Kd.int .i64).M W w0.heap.size (fun _ => False)) (Kd.int .i64).sz xs inner) (hm : xs.length ≤ 9223372036854775807)
    (k : ∀ v1 w1, All dP tA tP tC tL tI tR tK w0 w1 gC gZ cC cZ vA vC vR vI vc vb v1 vl LA LC LR LI lc lb xs ll → (∀ (j : Nat) (o9 : Obj), W.heap[j]? = some o9 → w1.heap[j]? = some o9) → Kc (a.put o.dst v1) w1) : if Region.wanted o (yielded ops a.tmps) = true then Oper.wp P o a W Kc Q else Kc (a.put o.dst undef) W := by
  have hle := h.le
  obtain ⟨hB, hC, hZ, hg, f, h0, h1, h2, h3, h4, h5, h6, h7⟩ := h
  refine Kd.R_lit_step (Kd.int .i64) (w0 := w0) w0.heap.size tL hw hd (xs := xs) (inner := inner) (ok := tg (upT f W.heap.size 6) 6) (okp := fun _ => False) hrun hrep (fun _ hk => hk.elim) (upT_ge (Nat.le_refl _)) hB hle hm ?_
  intro v1 w1 hr hb hgr _
  have no : ∀ i k, (none : Option Nat) = some k → f k ≠ i := fun _ _ e => by cases e
  exact k v1 w1 ⟨hb, blk_grown hC hgr (by simp), blk_grown hZ hgr (by simp), hg, upT f W.heap.size 6, R_carry h0 hgr (no 0) (fun k hk e => (upT_lt hk).trans e), S_carry h1 hgr (no 1) (fun k hk e => (upT_lt hk).trans e), S_carry h2 hgr (no 2) (fun k hk e => (upT_lt hk).trans e), S_carry h3 hgr (no 3) (fun k hk e => (upT_lt hk).trans e), R_carry h4 hgr (no 4) (fun k hk e => (upT_lt hk).trans e), S_carry h5 hgr (no 5) (fun k hk e => (upT_lt hk).trans e), hr, R_carry h7 hgr (no 7) (fun k hk e => (upT_lt hk).trans e)⟩ (fun j o9 hj => blk_grown hj hgr (by simp))
theorem All.row_i (h : All dP tA tP tC tL tI tR tK w0 W gC gZ cC cZ vA vC vR vI vc vb (.slice none 0 0) vl LA LC LR LI lc lb [] ll) {v1 : Value} {xs : List Int} {ok : Nat → Prop} (hb : Below W.heap.size W w1) (hr : (Kd.int .i64).R tL w1 W.heap.size ok v1 xs) : All dP tA tP tC tL tI tR tK w0 w1 gC gZ cC cZ vA vC vR vI vc vb v1 vl LA LC LR LI lc lb xs ll := by
  have hle := h.le
  obtain ⟨hB, hC, hZ, hg, f, h0, h1, h2, h3, h4, h5, h6, h7⟩ := h
  have hgr := grown_of_below hb none
  have no : ∀ i k, (none : Option Nat) = some k → f k ≠ i := fun _ _ e => by cases e
  exact ⟨below_step hB hb, blk_below hC hb, blk_below hZ hb, hg, upT f W.heap.size 6, R_carry h0 hgr (no 0) (fun k hk e => (upT_lt hk).trans e), S_carry h1 hgr (no 1) (fun k hk e => (upT_lt hk).trans e), S_carry h2 hgr (no 2) (fun k hk e => (upT_lt hk).trans e), S_carry h3 hgr (no 3) (fun k hk e => (upT_lt hk).trans e), R_carry h4 hgr (no 4) (fun k hk e => (upT_lt hk).trans e), S_carry h5 hgr (no 5) (fun k hk e => (upT_lt hk).trans e), Kd.R_lower (Kd.R_mono (Kd.R_bound hr) (fun k hk => upT_ge hk.2.1)) hle, R_carry h7 hgr (no 7) (fun k hk e => (upT_lt hk).trans e)⟩
theorem All.row_l (h : All dP tA tP tC tL tI tR tK w0 W gC gZ cC cZ vA vC vR vI vc vb vi (.slice none 0 0) LA LC LR LI lc lb li []) {v1 : Value} {xs : List Int} {ok : Nat → Prop} (hb : Below W.heap.size W w1) (hr : (Kd.int .i64).R tL w1 W.heap.size ok v1 xs) : All dP tA tP tC tL tI tR tK w0 w1 gC gZ cC cZ vA vC vR vI vc vb vi v1 LA LC LR LI lc lb li xs := by
  have hle := h.le
  obtain ⟨hB, hC, hZ, hg, f, h0, h1, h2, h3, h4, h5, h6, h7⟩ := h
  have hgr := grown_of_below hb none
  have no : ∀ i k, (none : Option Nat) = some k → f k ≠ i := fun _ _ e => by cases e
  exact ⟨below_step hB hb, blk_below hC hb, blk_below hZ hb, hg, upT f W.heap.size 7, R_carry h0 hgr (no 0) (fun k hk e => (upT_lt hk).trans e), S_carry h1 hgr (no 1) (fun k hk e => (upT_lt hk).trans e), S_carry h2 hgr (no 2) (fun k hk e => (upT_lt hk).trans e), S_carry h3 hgr (no 3) (fun k hk e => (upT_lt hk).trans e), R_carry h4 hgr (no 4) (fun k hk e => (upT_lt hk).trans e), S_carry h5 hgr (no 5) (fun k hk e => (upT_lt hk).trans e), R_carry h6 hgr (no 6) (fun k hk e => (upT_lt hk).trans e), Kd.R_lower (Kd.R_mono (Kd.R_bound hr) (fun k hk => upT_ge hk.2.1)) hle⟩
theorem All.lit_b2 (hT : Apart dP tA tP tC tL tI tR tK) (h : All dP tA tP tC tL tI tR tK w0 W gC gZ cC cZ vA vC vR vI vc (.slice none 0 0) vi vl LA LC LR LI lc [] li ll) (hw : Region.wanted o (yielded ops a.tmps) = true) {N : Tmp} (hd : o.dst = some N)
    (hrun : (execOp a.eval o).run P W = .ok (.value (.slice (some ⟨W.heap.size, 0, none⟩) 2 2)) (W.alloc (.cells #[vi, vl] tI)))
    (k : ∀ v1 w1, All dP tA tP tC tL tI tR tK w0 w1 gC gZ cC cZ vA vC vR vI vc v1 (.slice none 0 0) (.slice none 0 0) LA LC LR LI lc [li, ll] [] [] → (∀ (j : Nat) (o9 : Obj), W.heap[j]? = some o9 → w1.heap[j]? = some o9) → Kc (a.put o.dst v1) w1) : if Region.wanted o (yielded ops a.tmps) = true then Oper.wp P o a W Kc Q else Kc (a.put o.dst undef) W := by
  have hle := h.le
  obtain ⟨hB, hC, hZ, hg, f, h0, h1, h2, h3, h4, h5, h6, h7⟩ := h
  have hrep : Reps ((Kd.tag (fun k => if f k = 6 then 0 else 1) (Kd.slice tL (Kd.int .i64))).M W w0.heap.size (fun k => (f k = 6 ∨ f k = 7) ∧ k < W.heap.size)) 1 [(li, 0), (ll, 1)] [vi, vl] := Reps.one ⟨vi, rfl, Kd.R_mono (R_tag_in h6) (fun k hk => ⟨⟨.inl hk.1, hk.2⟩, if_pos hk.1⟩)⟩ (Reps.one ⟨vl, rfl, Kd.R_mono (R_tag_in h7) (fun k hk => ⟨⟨.inr hk.1, hk.2⟩, if_neg (by rw [hk.1]; decide)⟩)⟩ (Reps.none _ _))
  refine Kd.R_lit_step (Kd.tag (fun k => if f k = 6 then 0 else 1) (Kd.slice tL (Kd.int .i64))) (w0 := w0) w0.heap.size tI hw hd (xs := [(li, 0), (ll, 1)]) (inner := [vi, vl]) (ok := tg (fun k => if k < W.heap.size then (if f k = 6 ∨ f k = 7 then 5 else f k) else 5) 5) (okp := fun k => (f k = 6 ∨ f k = 7) ∧ k < W.heap.size) hrun hrep (fun k hk => (if_pos hk.2).trans (if_pos hk.1)) (if_neg (by omega)) hB hle (by simp) ?_
  intro v1 w1 hr hb hgr _
  have no : ∀ i k, (none : Option Nat) = some k → f k ≠ i := fun _ _ e => by cases e
  have oth : ∀ i, i ≠ 6 → i ≠ 7 → ∀ k, k < W.heap.size → f k = i → (if k < W.heap.size then (if f k = 6 ∨ f k = 7 then 5 else f k) else 5) = i := fun i h6 h7 k hk e => (if_pos hk).trans ((if_neg (by rw [e]; omega)).trans e)
  exact k v1 w1 ⟨hb, blk_grown hC hgr (by simp), blk_grown hZ hgr (by simp), hg, _, R_carry h0 hgr (no 0) (oth 0 (by decide) (by decide)), S_carry h1 hgr (no 1) (oth 1 (by decide) (by decide)), S_carry h2 hgr (no 2) (oth 2 (by decide) (by decide)), S_carry h3 hgr (no 3) (oth 3 (by decide) (by decide)), R_carry h4 hgr (no 4) (oth 4 (by decide) (by decide)), ⟨_, hr⟩, Kd.R_nil _ _ _ _ _, Kd.R_nil _ _ _ _ _⟩ (fun j o9 hj => blk_grown hj hgr (by simp))
theorem wpList_at (h : if Region.wanted o (yielded ops a.tmps) = true then Oper.wp P o a W (wpList P ops Q rest) Q else wpList P ops Q rest (a.put o.dst undef) W) : wpList P ops Q (o :: rest) a W := by
  unfold wpList
  split
  · rename_i hw; rw [if_pos hw] at h; exact .inl h
  · rename_i hw; rw [if_neg hw] at h; exact h
end
end Go.Proofs.Ytepkfigcnnfoaaa.Deep
