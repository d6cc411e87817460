/- What an append, or a literal, does to all that 'built' has in hand. Written by a program of this session (mkdeep2.py). -/
import Derived.Test.YtepkfigcnnfoaaaDeep
namespace Go.Proofs.Ytepkfigcnnfoaaa.Deep
open Go.RowKit Go.Proofs.YtepkfigcnnfoaaaW.PrintWords Go.Proofs.YtepkfigcnnfoaaaW.PrintLast Go.Proofs.YtepkfigcnnfoaaaW.PrintMore
set_option linter.unusedVariables false
set_option linter.unusedSimpArgs false
section
variable {P : Program} {ops : Array Oper} {rest : List Oper} {o : Oper} {a : Act} {Q : Exit → Act → World → Prop} {Kc : Act → World → Prop}
variable {α : Type} {dP : Kd α} {tA tP tC tL tI tR tK : Nat} {w0 W w1 : World} {gC gZ : Nat} {cC cZ : Array Value} {vA vC vR vI vc vb vi vl : Value} {LA : List Bool} {LC : List (List α)} {LR : List (List (List Int))} {LI : List (List Int)} {lc : List α} {lb : List (List Int)} {li ll : List Int}
theorem All.app_l (hT : Apart dP tA tP tC tL tI tR tK) (h : All dP tA tP tC tL tI tR tK w0 W gC gZ cC cZ vA vC vR vI vc vb vi vl LA LC LR LI lc lb li ll) (hgd : o.guard = none) (s x : Operand) (t : TypeId) (y : Int)
    (ho : o.op = .call { callee := .builtin .append, args := #[s, x], argTypes := #[t, t] }) (ht : P.underlying t = some (.slice tL)) (hinfo : (P.info? tL).map (fun i => (i.zero, i.size, i.bytes)) = some (some (.int .i64 0), 1, 8))
    (hs : a.eval s = vl) (hx : a.eval x = .slice (some ⟨W.heap.size, 0, none⟩) 1 1) (hl : (ll.length + 1) * 8 ≤ 140737488355328)
    (k : ∀ v1 w1, All dP tA tP tC tL tI tR tK w0 w1 gC gZ cC cZ vA vC vR vI vc vb vi v1 LA LC LR LI lc lb li (ll ++ [y]) → wpList P ops Q rest (a.put o.dst v1) w1) :
    wpList P ops Q (o :: rest) a (W.alloc (.cells [.int .i64 y].toArray tL)) := by
  have hle := h.le
  obtain ⟨hB, hC, hZ, hg, f, h0, h1, h2, h3, h4, h5, h6, h7⟩ := h
  refine Kd.R_append (Kd.int .i64) (w0 := w0) w0.heap.size hgd s x t tL (.int .i64 0) 8 ho ht hinfo rfl (by show 0 < 1; decide) (by decide) vl ll y [.int .i64 y] (tg (upT f W.heap.size 7) 7) (fun _ => False) hs hx rfl (fun _ hk => hk.elim) (fun k hk => upT_ge hk) (Kd.R_mono (R_tag_in h7) (fun k hk => (upT_lt hk.2).trans hk.1)) hB hle hl ?_
  intro v1 w1 hr hb hgr _
  have row : ∀ i, i ≠ 7 → ∀ k, vl.ownBlock = some k → f k ≠ i := fun i hi k hk e => hi (e.symm.trans (h7.1 k hk))
  exact k v1 w1 ⟨hb, blk_grown hC hgr (Kd.R_ne h7 hC hT.l), blk_grown hZ hgr (Kd.R_ne h7 hZ hT.l), hg, upT f W.heap.size 7, R_carry h0 hgr (row 0 (by decide)) (fun k hk e => (upT_lt hk).trans e), S_carry h1 hgr (row 1 (by decide)) (fun k hk e => (upT_lt hk).trans e), S_carry h2 hgr (row 2 (by decide)) (fun k hk e => (upT_lt hk).trans e), S_carry h3 hgr (row 3 (by decide)) (fun k hk e => (upT_lt hk).trans e), R_carry h4 hgr (row 4 (by decide)) (fun k hk e => (upT_lt hk).trans e), S_carry h5 hgr (row 5 (by decide)) (fun k hk e => (upT_lt hk).trans e), R_carry h6 hgr (row 6 (by decide)) (fun k hk e => (upT_lt hk).trans e), hr⟩
theorem All.app_c (hT : Apart dP tA tP tC tL tI tR tK) (h : All dP tA tP tC tL tI tR tK w0 W gC gZ cC cZ vA vC vR vI vc vb vi vl LA LC LR LI lc lb li ll) (hgd : o.guard = none) (s x : Operand) (t : TypeId) (y : α) (cs : List Value) (hcs : dP.M W w0.heap.size (fun _ => False) y cs) (zP : Value) (bytes : Nat) (hz : zP.cells.size = dP.sz) (hs0 : 0 < dP.sz) (hb0 : 0 < bytes)
    (ho : o.op = .call { callee := .builtin .append, args := #[s, x], argTypes := #[t, t] }) (ht : P.underlying t = some (.slice tP)) (hinfo : (P.info? tP).map (fun i => (i.zero, i.size, i.bytes)) = some (some (zP), dP.sz, bytes))
    (hs : a.eval s = vc) (hx : a.eval x = .slice (some ⟨W.heap.size, 0, none⟩) 1 1) (hl : (lc.length + 1) * bytes ≤ 140737488355328)
    (k : ∀ v1 w1, All dP tA tP tC tL tI tR tK w0 w1 gC gZ cC cZ vA vC vR vI v1 vb vi vl LA LC LR LI (lc ++ [y]) lb li ll → wpList P ops Q rest (a.put o.dst v1) w1) :
    wpList P ops Q (o :: rest) a (W.alloc (.cells cs.toArray tP)) := by
  have hle := h.le
  obtain ⟨hB, hC, hZ, hg, f, h0, h1, h2, h3, h4, h5, h6, h7⟩ := h
  refine Kd.R_append dP (w0 := w0) w0.heap.size hgd s x t tP (zP) bytes ho ht hinfo hz hs0 hb0 vc lc y cs (tg (upT f W.heap.size 4) 4) (fun _ => False) hs hx hcs (fun _ hk => hk.elim) (fun k hk => upT_ge hk) (Kd.R_mono (R_tag_in h4) (fun k hk => (upT_lt hk.2).trans hk.1)) hB hle hl ?_
  intro v1 w1 hr hb hgr _
  have row : ∀ i, i ≠ 4 → ∀ k, vc.ownBlock = some k → f k ≠ i := fun i hi k hk e => hi (e.symm.trans (h4.1 k hk))
  exact k v1 w1 ⟨hb, blk_grown hC hgr (Kd.R_ne h4 hC hT.p), blk_grown hZ hgr (Kd.R_ne h4 hZ hT.p), hg, upT f W.heap.size 4, R_carry h0 hgr (row 0 (by decide)) (fun k hk e => (upT_lt hk).trans e), S_carry h1 hgr (row 1 (by decide)) (fun k hk e => (upT_lt hk).trans e), S_carry h2 hgr (row 2 (by decide)) (fun k hk e => (upT_lt hk).trans e), S_carry h3 hgr (row 3 (by decide)) (fun k hk e => (upT_lt hk).trans e), hr, S_carry h5 hgr (row 5 (by decide)) (fun k hk e => (upT_lt hk).trans e), R_carry h6 hgr (row 6 (by decide)) (fun k hk e => (upT_lt hk).trans e), R_carry h7 hgr (row 7 (by decide)) (fun k hk e => (upT_lt hk).trans e)⟩
theorem All.app_b (hT : Apart dP tA tP tC tL tI tR tK) (h : All dP tA tP tC tL tI tR tK w0 W gC gZ cC cZ vA vC vR vI vc vb vi vl LA LC LR LI lc lb li ll) (hgd : o.guard = none) (s x : Operand) (t : TypeId) 
    (ho : o.op = .call { callee := .builtin .append, args := #[s, x], argTypes := #[t, t] }) (ht : P.underlying t = some (.slice tI)) (hinfo : (P.info? tI).map (fun i => (i.zero, i.size, i.bytes)) = some (some (.slice none 0 0), 1, 24))
    (hs : a.eval s = vb) (hx : a.eval x = .slice (some ⟨W.heap.size, 0, none⟩) 1 1) (hl : (lb.length + 1) * 24 ≤ 140737488355328)
    (k : ∀ v1 w1, All dP tA tP tC tL tI tR tK w0 w1 gC gZ cC cZ vA vC vR vI vc v1 vi (.slice none 0 0) LA LC LR LI lc (lb ++ [ll]) li [] → wpList P ops Q rest (a.put o.dst v1) w1) :
    wpList P ops Q (o :: rest) a (W.alloc (.cells [vl].toArray tI)) := by
  have hle := h.le
  obtain ⟨hB, hC, hZ, hg, f, h0, h1, h2, h3, h4, h5, h6, h7⟩ := h
  refine Kd.S_append (Kd.slice tL (Kd.int .i64)) (w0 := w0) w0.heap.size hgd s x t tI (.slice none 0 0) 24 ho ht hinfo rfl (by show 0 < 1; decide) (by decide) vb lb ll [vl] (tg (mvT f W.heap.size 7 5) 5) (fun k => f k = 7 ∧ k < W.heap.size) hs hx ⟨vl, rfl, R_tag_in h7⟩ (fun k hk => ⟨mvT_i hk.2 hk.1, fun e => by have h9 : f k = 5 := (Kd.S_R h5).1 k e.symm; have := hk.1; omega⟩) (fun k hk => mvT_ge hk) (Kd.S_mono (S_tag_in h5) (fun k hk => ⟨(mvT_o hk.2 (by rw [hk.1]; decide)).trans hk.1, fun h9 => by have := hk.1; have := h9.1; omega⟩)) hB hle hl ?_
  intro v1 w1 hr hb hgr _
  have row : ∀ i, i ≠ 5 → ∀ k, vb.ownBlock = some k → f k ≠ i := fun i hi k hk e => hi (e.symm.trans ((Kd.S_R h5).1 k hk))
  exact k v1 w1 ⟨hb, blk_grown hC hgr (Kd.S_ne h5 hC hT.i), blk_grown hZ hgr (Kd.S_ne h5 hZ hT.i), hg, mvT f W.heap.size 7 5, R_carry h0 hgr (row 0 (by decide)) (mv_other (by decide)), S_carry h1 hgr (row 1 (by decide)) (mv_other (by decide)), S_carry h2 hgr (row 2 (by decide)) (mv_other (by decide)), S_carry h3 hgr (row 3 (by decide)) (mv_other (by decide)), R_carry h4 hgr (row 4 (by decide)) (mv_other (by decide)), hr, R_carry h6 hgr (row 6 (by decide)) (mv_other (by decide)), Kd.R_nil _ _ _ _ _⟩
theorem All.app_i (hT : Apart dP tA tP tC tL tI tR tK) (h : All dP tA tP tC tL tI tR tK w0 W gC gZ cC cZ vA vC vR vI vc vb vi vl LA LC LR LI lc lb li ll) (hgd : o.guard = none) (s x : Operand) (t : TypeId) (y : Int)
    (ho : o.op = .call { callee := .builtin .append, args := #[s, x], argTypes := #[t, t] }) (ht : P.underlying t = some (.slice tL)) (hinfo : (P.info? tL).map (fun i => (i.zero, i.size, i.bytes)) = some (some (.int .i64 0), 1, 8))
    (hs : a.eval s = vi) (hx : a.eval x = .slice (some ⟨W.heap.size, 0, none⟩) 1 1) (hl : (li.length + 1) * 8 ≤ 140737488355328)
    (k : ∀ v1 w1, All dP tA tP tC tL tI tR tK w0 w1 gC gZ cC cZ vA vC vR vI vc vb v1 vl LA LC LR LI lc lb (li ++ [y]) ll → wpList P ops Q rest (a.put o.dst v1) w1) :
    wpList P ops Q (o :: rest) a (W.alloc (.cells [.int .i64 y].toArray tL)) := by
  have hle := h.le
  obtain ⟨hB, hC, hZ, hg, f, h0, h1, h2, h3, h4, h5, h6, h7⟩ := h
  refine Kd.R_append (Kd.int .i64) (w0 := w0) w0.heap.size hgd s x t tL (.int .i64 0) 8 ho ht hinfo rfl (by show 0 < 1; decide) (by decide) vi li y [.int .i64 y] (tg (upT f W.heap.size 6) 6) (fun _ => False) hs hx rfl (fun _ hk => hk.elim) (fun k hk => upT_ge hk) (Kd.R_mono (R_tag_in h6) (fun k hk => (upT_lt hk.2).trans hk.1)) hB hle hl ?_
  intro v1 w1 hr hb hgr _
  have row : ∀ i, i ≠ 6 → ∀ k, vi.ownBlock = some k → f k ≠ i := fun i hi k hk e => hi (e.symm.trans (h6.1 k hk))
  exact k v1 w1 ⟨hb, blk_grown hC hgr (Kd.R_ne h6 hC hT.l), blk_grown hZ hgr (Kd.R_ne h6 hZ hT.l), hg, upT f W.heap.size 6, R_carry h0 hgr (row 0 (by decide)) (fun k hk e => (upT_lt hk).trans e), S_carry h1 hgr (row 1 (by decide)) (fun k hk e => (upT_lt hk).trans e), S_carry h2 hgr (row 2 (by decide)) (fun k hk e => (upT_lt hk).trans e), S_carry h3 hgr (row 3 (by decide)) (fun k hk e => (upT_lt hk).trans e), R_carry h4 hgr (row 4 (by decide)) (fun k hk e => (upT_lt hk).trans e), S_carry h5 hgr (row 5 (by decide)) (fun k hk e => (upT_lt hk).trans e), hr, R_carry h7 hgr (row 7 (by decide)) (fun k hk e => (upT_lt hk).trans e)⟩
theorem All.app_A (hT : Apart dP tA tP tC tL tI tR tK) (h : All dP tA tP tC tL tI tR tK w0 W gC gZ cC cZ vA vC vR vI vc vb vi vl LA LC LR LI lc lb li ll) (hw : Region.wanted o (yielded ops a.tmps) = true) (s x : Operand) (t : TypeId) (y : Bool)
    (ho : o.op = .call { callee := .builtin .append, args := #[s, x], argTypes := #[t, t] }) (ht : P.underlying t = some (.slice tA)) (hinfo : (P.info? tA).map (fun i => (i.zero, i.size, i.bytes)) = some (some (.bool false), 1, 1))
    (hs : a.eval s = vA) (g : Nat) (hx : a.eval x = .slice (some ⟨g, 0, none⟩) 1 1) (hgv : W.heap[g]? = some (.cells [.bool y].toArray tA (0, 0))) (hl : (LA.length + 1) * 1 ≤ 140737488355328)
    (k : ∀ v1 w1, All dP tA tP tC tL tI tR tK w0 w1 gC gZ cC cZ v1 vC vR vI vc vb vi vl (LA ++ [y]) LC LR LI lc lb li ll → (∀ (j : Nat) (cs2 : Array Value) (e2 : TypeId), W.heap[j]? = some (.cells cs2 e2 (0, 0)) → tA ≠ e2 → w1.heap[j]? = some (.cells cs2 e2 (0, 0))) → Kc (a.put o.dst v1) w1) :
    if Region.wanted o (yielded ops a.tmps) = true then Oper.wp P o a W Kc Q else Kc (a.put o.dst undef) W := by
  have hle := h.le
  obtain ⟨hB, hC, hZ, hg, f, h0, h1, h2, h3, h4, h5, h6, h7⟩ := h
  refine R_append_at Kd.bool (w0 := w0) w0.heap.size hw s x t tA (.bool false) 1 ho ht hinfo rfl (by show 0 < 1; decide) (by decide) vA LA y [.bool y] (tg (upT f W.heap.size 0) 0) (fun _ => False) g hs hx hgv rfl (fun _ hk => hk.elim) (fun k hk => upT_ge hk) (Kd.R_mono (R_tag_in h0) (fun k hk => (upT_lt hk.2).trans hk.1)) hB hle hl ?_
  intro v1 w1 hr hb hgr _
  have row : ∀ i, i ≠ 0 → ∀ k, vA.ownBlock = some k → f k ≠ i := fun i hi k hk e => hi (e.symm.trans (h0.1 k hk))
  exact k v1 w1 ⟨hb, blk_grown hC hgr (Kd.R_ne h0 hC hT.a), blk_grown hZ hgr (Kd.R_ne h0 hZ hT.a), hg, upT f W.heap.size 0, hr, S_carry h1 hgr (row 1 (by decide)) (fun k hk e => (upT_lt hk).trans e), S_carry h2 hgr (row 2 (by decide)) (fun k hk e => (upT_lt hk).trans e), S_carry h3 hgr (row 3 (by decide)) (fun k hk e => (upT_lt hk).trans e), R_carry h4 hgr (row 4 (by decide)) (fun k hk e => (upT_lt hk).trans e), S_carry h5 hgr (row 5 (by decide)) (fun k hk e => (upT_lt hk).trans e), R_carry h6 hgr (row 6 (by decide)) (fun k hk e => (upT_lt hk).trans e), R_carry h7 hgr (row 7 (by decide)) (fun k hk e => (upT_lt hk).trans e)⟩ (fun j cs2 e2 hj he => blk_grown hj hgr (Kd.R_ne h0 hj he))
theorem All.app_C (hT : Apart dP tA tP tC tL tI tR tK) (h : All dP tA tP tC tL tI tR tK w0 W gC gZ cC cZ vA vC vR vI vc vb vi vl LA LC LR LI lc lb li ll) (hw : Region.wanted o (yielded ops a.tmps) = true) (s x : Operand) (t : TypeId) 
    (ho : o.op = .call { callee := .builtin .append, args := #[s, x], argTypes := #[t, t] }) (ht : P.underlying t = some (.slice tC)) (hinfo : (P.info? tC).map (fun i => (i.zero, i.size, i.bytes)) = some (some (.slice none 0 0), 1, 24))
    (hs : a.eval s = vC) (g : Nat) (hx : a.eval x = .slice (some ⟨g, 0, none⟩) 1 1) (hgv : W.heap[g]? = some (.cells [vc].toArray tC (0, 0))) (hl : (LC.length + 1) * 24 ≤ 140737488355328)
    (k : ∀ v1 w1, All dP tA tP tC tL tI tR tK w0 w1 gC gZ cC cZ vA v1 vR vI (.slice none 0 0) vb vi vl LA (LC ++ [lc]) LR LI [] lb li ll → (∀ (j : Nat) (cs2 : Array Value) (e2 : TypeId), W.heap[j]? = some (.cells cs2 e2 (0, 0)) → tC ≠ e2 → w1.heap[j]? = some (.cells cs2 e2 (0, 0))) → Kc (a.put o.dst v1) w1) :
    if Region.wanted o (yielded ops a.tmps) = true then Oper.wp P o a W Kc Q else Kc (a.put o.dst undef) W := by
  have hle := h.le
  obtain ⟨hB, hC, hZ, hg, f, h0, h1, h2, h3, h4, h5, h6, h7⟩ := h
  refine S_append_at (Kd.slice tP dP) (w0 := w0) w0.heap.size hw s x t tC (.slice none 0 0) 24 ho ht hinfo rfl (by show 0 < 1; decide) (by decide) vC LC lc [vc] (tg (mvT f W.heap.size 4 1) 1) (fun k => f k = 4 ∧ k < W.heap.size) g hs hx hgv ⟨vc, rfl, R_tag_in h4⟩ (fun k hk => ⟨mvT_i hk.2 hk.1, fun e => by have h9 : f k = 1 := (Kd.S_R h1).1 k e.symm; have := hk.1; omega⟩) (fun k hk => mvT_ge hk) (Kd.S_mono (S_tag_in h1) (fun k hk => ⟨(mvT_o hk.2 (by rw [hk.1]; decide)).trans hk.1, fun h9 => by have := hk.1; have := h9.1; omega⟩)) hB hle hl ?_
  intro v1 w1 hr hb hgr _
  have row : ∀ i, i ≠ 1 → ∀ k, vC.ownBlock = some k → f k ≠ i := fun i hi k hk e => hi (e.symm.trans ((Kd.S_R h1).1 k hk))
  exact k v1 w1 ⟨hb, blk_grown hC hgr (Kd.S_ne h1 hC hT.c), blk_grown hZ hgr (Kd.S_ne h1 hZ hT.c), hg, mvT f W.heap.size 4 1, R_carry h0 hgr (row 0 (by decide)) (mv_other (by decide)), hr, S_carry h2 hgr (row 2 (by decide)) (mv_other (by decide)), S_carry h3 hgr (row 3 (by decide)) (mv_other (by decide)), Kd.R_nil _ _ _ _ _, S_carry h5 hgr (row 5 (by decide)) (mv_other (by decide)), R_carry h6 hgr (row 6 (by decide)) (mv_other (by decide)), R_carry h7 hgr (row 7 (by decide)) (mv_other (by decide))⟩ (fun j cs2 e2 hj he => blk_grown hj hgr (Kd.S_ne h1 hj he))
theorem All.app_R (hT : Apart dP tA tP tC tL tI tR tK) (h : All dP tA tP tC tL tI tR tK w0 W gC gZ cC cZ vA vC vR vI vc vb vi vl LA LC LR LI lc lb li ll) (hw : Region.wanted o (yielded ops a.tmps) = true) (s x : Operand) (t : TypeId) 
    (ho : o.op = .call { callee := .builtin .append, args := #[s, x], argTypes := #[t, t] }) (ht : P.underlying t = some (.slice tR)) (hinfo : (P.info? tR).map (fun i => (i.zero, i.size, i.bytes)) = some (some (.slice none 0 0), 1, 24))
    (hs : a.eval s = vR) (g : Nat) (hx : a.eval x = .slice (some ⟨g, 0, none⟩) 1 1) (hgv : W.heap[g]? = some (.cells [vb].toArray tR (0, 0))) (hl : (LR.length + 1) * 24 ≤ 140737488355328)
    (k : ∀ v1 w1, All dP tA tP tC tL tI tR tK w0 w1 gC gZ cC cZ vA vC v1 vI vc (.slice none 0 0) vi vl LA LC (LR ++ [lb]) LI lc [] li ll → (∀ (j : Nat) (cs2 : Array Value) (e2 : TypeId), W.heap[j]? = some (.cells cs2 e2 (0, 0)) → tR ≠ e2 → w1.heap[j]? = some (.cells cs2 e2 (0, 0))) → Kc (a.put o.dst v1) w1) :
    if Region.wanted o (yielded ops a.tmps) = true then Oper.wp P o a W Kc Q else Kc (a.put o.dst undef) W := by
  have hle := h.le
  obtain ⟨hB, hC, hZ, hg, f, h0, h1, h2, h3, h4, h5, h6, h7⟩ := h
  refine S_append_at (sliceS tI (Kd.slice tL (Kd.int .i64))) (w0 := w0) w0.heap.size hw s x t tR (.slice none 0 0) 24 ho ht hinfo rfl (by show 0 < 1; decide) (by decide) vR LR lb [vb] (tg (mvT f W.heap.size 5 2) 2) (fun k => f k = 5 ∧ k < W.heap.size) g hs hx hgv ⟨vb, rfl, S_tag_in h5⟩ (fun k hk => ⟨mvT_i hk.2 hk.1, fun e => by have h9 : f k = 2 := (Kd.S_R h2).1 k e.symm; have := hk.1; omega⟩) (fun k hk => mvT_ge hk) (Kd.S_mono (S_tag_in h2) (fun k hk => ⟨(mvT_o hk.2 (by rw [hk.1]; decide)).trans hk.1, fun h9 => by have := hk.1; have := h9.1; omega⟩)) hB hle hl ?_
  intro v1 w1 hr hb hgr _
  have row : ∀ i, i ≠ 2 → ∀ k, vR.ownBlock = some k → f k ≠ i := fun i hi k hk e => hi (e.symm.trans ((Kd.S_R h2).1 k hk))
  exact k v1 w1 ⟨hb, blk_grown hC hgr (Kd.S_ne h2 hC hT.r), blk_grown hZ hgr (Kd.S_ne h2 hZ hT.r), hg, mvT f W.heap.size 5 2, R_carry h0 hgr (row 0 (by decide)) (mv_other (by decide)), S_carry h1 hgr (row 1 (by decide)) (mv_other (by decide)), hr, S_carry h3 hgr (row 3 (by decide)) (mv_other (by decide)), R_carry h4 hgr (row 4 (by decide)) (mv_other (by decide)), Kd.S_nil _ _ _ _ _, R_carry h6 hgr (row 6 (by decide)) (mv_other (by decide)), R_carry h7 hgr (row 7 (by decide)) (mv_other (by decide))⟩ (fun j cs2 e2 hj he => blk_grown hj hgr (Kd.S_ne h2 hj he))
theorem All.app_I (hT : Apart dP tA tP tC tL tI tR tK) (h : All dP tA tP tC tL tI tR tK w0 W gC gZ cC cZ vA vC vR vI vc vb vi vl LA LC LR LI lc lb li ll) (hw : Region.wanted o (yielded ops a.tmps) = true) (s x : Operand) (t : TypeId) 
    (ho : o.op = .call { callee := .builtin .append, args := #[s, x], argTypes := #[t, t] }) (ht : P.underlying t = some (.slice tI)) (hinfo : (P.info? tI).map (fun i => (i.zero, i.size, i.bytes)) = some (some (.slice none 0 0), 1, 24))
    (hs : a.eval s = vI) (g : Nat) (hx : a.eval x = .slice (some ⟨g, 0, none⟩) 1 1) (hgv : W.heap[g]? = some (.cells [vi].toArray tI (0, 0))) (hl : (LI.length + 1) * 24 ≤ 140737488355328)
    (k : ∀ v1 w1, All dP tA tP tC tL tI tR tK w0 w1 gC gZ cC cZ vA vC vR v1 vc vb (.slice none 0 0) vl LA LC LR (LI ++ [li]) lc lb [] ll → (∀ (j : Nat) (cs2 : Array Value) (e2 : TypeId), W.heap[j]? = some (.cells cs2 e2 (0, 0)) → tI ≠ e2 → w1.heap[j]? = some (.cells cs2 e2 (0, 0))) → Kc (a.put o.dst v1) w1) :
    if Region.wanted o (yielded ops a.tmps) = true then Oper.wp P o a W Kc Q else Kc (a.put o.dst undef) W := by
  have hle := h.le
  obtain ⟨hB, hC, hZ, hg, f, h0, h1, h2, h3, h4, h5, h6, h7⟩ := h
  refine S_append_at (Kd.slice tL (Kd.int .i64)) (w0 := w0) w0.heap.size hw s x t tI (.slice none 0 0) 24 ho ht hinfo rfl (by show 0 < 1; decide) (by decide) vI LI li [vi] (tg (mvT f W.heap.size 6 3) 3) (fun k => f k = 6 ∧ k < W.heap.size) g hs hx hgv ⟨vi, rfl, R_tag_in h6⟩ (fun k hk => ⟨mvT_i hk.2 hk.1, fun e => by have h9 : f k = 3 := (Kd.S_R h3).1 k e.symm; have := hk.1; omega⟩) (fun k hk => mvT_ge hk) (Kd.S_mono (S_tag_in h3) (fun k hk => ⟨(mvT_o hk.2 (by rw [hk.1]; decide)).trans hk.1, fun h9 => by have := hk.1; have := h9.1; omega⟩)) hB hle hl ?_
  intro v1 w1 hr hb hgr _
  have row : ∀ i, i ≠ 3 → ∀ k, vI.ownBlock = some k → f k ≠ i := fun i hi k hk e => hi (e.symm.trans ((Kd.S_R h3).1 k hk))
  exact k v1 w1 ⟨hb, blk_grown hC hgr (Kd.S_ne h3 hC hT.i), blk_grown hZ hgr (Kd.S_ne h3 hZ hT.i), hg, mvT f W.heap.size 6 3, R_carry h0 hgr (row 0 (by decide)) (mv_other (by decide)), S_carry h1 hgr (row 1 (by decide)) (mv_other (by decide)), S_carry h2 hgr (row 2 (by decide)) (mv_other (by decide)), hr, R_carry h4 hgr (row 4 (by decide)) (mv_other (by decide)), S_carry h5 hgr (row 5 (by decide)) (mv_other (by decide)), Kd.R_nil _ _ _ _ _, R_carry h7 hgr (row 7 (by decide)) (mv_other (by decide))⟩ (fun j cs2 e2 hj he => blk_grown hj hgr (Kd.S_ne h3 hj he))
theorem All.lit_c (hT : Apart dP tA tP tC tL tI tR tK) (h : All dP tA tP tC tL tI tR tK w0 W gC gZ cC cZ vA vC vR vI (.slice none 0 0) vb vi vl LA LC LR LI [] lb li ll) (hgd : o.guard = none) {N : Tmp} (hd : o.dst = some N)
    (hrun : (execOp a.eval o).run P W = .ok (.value (.slice (some ⟨W.heap.size, 0, none⟩) 0 0)) (W.alloc (.cells #[] tP)))
    (k : ∀ v1 w1, All dP tA tP tC tL tI tR tK w0 w1 gC gZ cC cZ vA vC vR vI v1 vb vi vl LA LC LR LI [] lb li ll → wpList P ops Q rest (a.put o.dst v1) w1) : wpList P ops Q (o :: rest) a W := by
  have hle := h.le
  obtain ⟨hB, hC, hZ, hg, f, h0, h1, h2, h3, h4, h5, h6, h7⟩ := h
  refine Kd.R_lit dP (w0 := w0) w0.heap.size tP hgd hd (xs := []) (inner := []) (ok := tg (upT f W.heap.size 4) 4) (okp := fun _ => False) hrun (Reps.none _ _) (fun _ hk => hk.elim) (upT_ge (Nat.le_refl _)) hB hle (by simp) ?_
  intro v1 w1 hr hb hgr _
  have no : ∀ i k, (none : Option Nat) = some k → f k ≠ i := fun _ _ e => by cases e
  exact k v1 w1 ⟨hb, blk_grown hC hgr (by simp), blk_grown hZ hgr (by simp), hg, upT f W.heap.size 4, R_carry h0 hgr (no 0) (fun k hk e => (upT_lt hk).trans e), S_carry h1 hgr (no 1) (fun k hk e => (upT_lt hk).trans e), S_carry h2 hgr (no 2) (fun k hk e => (upT_lt hk).trans e), S_carry h3 hgr (no 3) (fun k hk e => (upT_lt hk).trans e), hr, S_carry h5 hgr (no 5) (fun k hk e => (upT_lt hk).trans e), R_carry h6 hgr (no 6) (fun k hk e => (upT_lt hk).trans e), R_carry h7 hgr (no 7) (fun k hk e => (upT_lt hk).trans e)⟩
theorem All.lit_b (hT : Apart dP tA tP tC tL tI tR tK) (h : All dP tA tP tC tL tI tR tK w0 W gC gZ cC cZ vA vC vR vI vc (.slice none 0 0) vi vl LA LC LR LI lc [] li ll) (hgd : o.guard = none) {N : Tmp} (hd : o.dst = some N)
    (hrun : (execOp a.eval o).run P W = .ok (.value (.slice (some ⟨W.heap.size, 0, none⟩) 0 0)) (W.alloc (.cells #[] tI)))
    (k : ∀ v1 w1, All dP tA tP tC tL tI tR tK w0 w1 gC gZ cC cZ vA vC vR vI vc v1 vi vl LA LC LR LI lc [] li ll → wpList P ops Q rest (a.put o.dst v1) w1) : wpList P ops Q (o :: rest) a W := by
  have hle := h.le
  obtain ⟨hB, hC, hZ, hg, f, h0, h1, h2, h3, h4, h5, h6, h7⟩ := h
  refine Kd.S_lit (Kd.slice tL (Kd.int .i64)) (w0 := w0) w0.heap.size tI hgd hd (xs := []) (inner := []) (ok := tg (upT f W.heap.size 5) 5) (okp := fun _ => False) hrun (Reps.none _ _) (fun _ hk => hk.elim) (upT_ge (Nat.le_refl _)) hB hle (by simp) ?_
  intro v1 w1 hr hb hgr _
  have no : ∀ i k, (none : Option Nat) = some k → f k ≠ i := fun _ _ e => by cases e
  exact k v1 w1 ⟨hb, blk_grown hC hgr (by simp), blk_grown hZ hgr (by simp), hg, upT f W.heap.size 5, R_carry h0 hgr (no 0) (fun k hk e => (upT_lt hk).trans e), S_carry h1 hgr (no 1) (fun k hk e => (upT_lt hk).trans e), S_carry h2 hgr (no 2) (fun k hk e => (upT_lt hk).trans e), S_carry h3 hgr (no 3) (fun k hk e => (upT_lt hk).trans e), R_carry h4 hgr (no 4) (fun k hk e => (upT_lt hk).trans e), hr, R_carry h6 hgr (no 6) (fun k hk e => (upT_lt hk).trans e), R_carry h7 hgr (no 7) (fun k hk e => (upT_lt hk).trans e)⟩
theorem All.lit_i (hT : Apart dP tA tP tC tL tI tR tK) (h : All dP tA tP tC tL tI tR tK w0 W gC gZ cC cZ vA vC vR vI vc vb (.slice none 0 0) vl LA LC LR LI lc lb [] ll) (hgd : o.guard = none) {N : Tmp} (hd : o.dst = some N)
    (hrun : (execOp a.eval o).run P W = .ok (.value (.slice (some ⟨W.heap.size, 0, none⟩) 0 0)) (W.alloc (.cells #[] tL)))
    (k : ∀ v1 w1, All dP tA tP tC tL tI tR tK w0 w1 gC gZ cC cZ vA vC vR vI vc vb v1 vl LA LC LR LI lc lb [] ll → wpList P ops Q rest (a.put o.dst v1) w1) : wpList P ops Q (o :: rest) a W := by
  have hle := h.le
  obtain ⟨hB, hC, hZ, hg, f, h0, h1, h2, h3, h4, h5, h6, h7⟩ := h
  refine Kd.R_lit (Kd.int .i64) (w0 := w0) w0.heap.size tL hgd hd (xs := []) (inner := []) (ok := tg (upT f W.heap.size 6) 6) (okp := fun _ => False) hrun (Reps.none _ _) (fun _ hk => hk.elim) (upT_ge (Nat.le_refl _)) hB hle (by simp) ?_
  intro v1 w1 hr hb hgr _
  have no : ∀ i k, (none : Option Nat) = some k → f k ≠ i := fun _ _ e => by cases e
  exact k v1 w1 ⟨hb, blk_grown hC hgr (by simp), blk_grown hZ hgr (by simp), hg, upT f W.heap.size 6, R_carry h0 hgr (no 0) (fun k hk e => (upT_lt hk).trans e), S_carry h1 hgr (no 1) (fun k hk e => (upT_lt hk).trans e), S_carry h2 hgr (no 2) (fun k hk e => (upT_lt hk).trans e), S_carry h3 hgr (no 3) (fun k hk e => (upT_lt hk).trans e), R_carry h4 hgr (no 4) (fun k hk e => (upT_lt hk).trans e), S_carry h5 hgr (no 5) (fun k hk e => (upT_lt hk).trans e), hr, R_carry h7 hgr (no 7) (fun k hk e => (upT_lt hk).trans e)⟩
theorem All.lit_l (hT : Apart dP tA tP tC tL tI tR tK) (h : All dP tA tP tC tL tI tR tK w0 W gC gZ cC cZ vA vC vR vI vc vb vi (.slice none 0 0) LA LC LR LI lc lb li []) (hgd : o.guard = none) {N : Tmp} (hd : o.dst = some N)
    (hrun : (execOp a.eval o).run P W = .ok (.value (.slice (some ⟨W.heap.size, 0, none⟩) 0 0)) (W.alloc (.cells #[] tL)))
    (k : ∀ v1 w1, All dP tA tP tC tL tI tR tK w0 w1 gC gZ cC cZ vA vC vR vI vc vb vi v1 LA LC LR LI lc lb li [] → wpList P ops Q rest (a.put o.dst v1) w1) : wpList P ops Q (o :: rest) a W := by
  have hle := h.le
  obtain ⟨hB, hC, hZ, hg, f, h0, h1, h2, h3, h4, h5, h6, h7⟩ := h
  refine Kd.R_lit (Kd.int .i64) (w0 := w0) w0.heap.size tL hgd hd (xs := []) (inner := []) (ok := tg (upT f W.heap.size 7) 7) (okp := fun _ => False) hrun (Reps.none _ _) (fun _ hk => hk.elim) (upT_ge (Nat.le_refl _)) hB hle (by simp) ?_
  intro v1 w1 hr hb hgr _
  have no : ∀ i k, (none : Option Nat) = some k → f k ≠ i := fun _ _ e => by cases e
  exact k v1 w1 ⟨hb, blk_grown hC hgr (by simp), blk_grown hZ hgr (by simp), hg, upT f W.heap.size 7, R_carry h0 hgr (no 0) (fun k hk e => (upT_lt hk).trans e), S_carry h1 hgr (no 1) (fun k hk e => (upT_lt hk).trans e), S_carry h2 hgr (no 2) (fun k hk e => (upT_lt hk).trans e), S_carry h3 hgr (no 3) (fun k hk e => (upT_lt hk).trans e), R_carry h4 hgr (no 4) (fun k hk e => (upT_lt hk).trans e), S_carry h5 hgr (no 5) (fun k hk e => (upT_lt hk).trans e), R_carry h6 hgr (no 6) (fun k hk e => (upT_lt hk).trans e), hr⟩
end
end Go.Proofs.Ytepkfigcnnfoaaa.Deep
