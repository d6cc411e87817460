/- Texts that this law leans on, several in one; written by programs of these sessions (print, wip/deep, gather.py). -/
import Derived.Test.YteeplponconnjaaGb1
import Derived.Lib.SliceRun
namespace Go.Proofs.Yteeplponconnjaa.Wa
open Go.RowKit Go.Proofs.YteeplponconnjaaW.PrintWords Go.Proofs.YteeplponconnjaaW.PrintLast Go.Proofs.YteeplponconnjaaW.PrintMore
set_option linter.unusedVariables false
set_option linter.unusedSimpArgs false
def tg (f : Nat → Nat) (j : Nat) : Nat → Prop := fun k => f k = j
def tg2 (f : Nat → Nat) : Nat → Prop := fun k => f k = 1 ∨ f k = 2
def upT (f : Nat → Nat) (N j : Nat) : Nat → Nat := fun k => if k < N then f k else j
theorem upT_lt {f : Nat → Nat} {N j k : Nat} (h : k < N) : upT f N j k = f k := if_pos h
theorem upT_ge {f : Nat → Nat} {N j k : Nat} (h : N ≤ k) : upT f N j k = j := if_neg (by omega)
section
variable {P : Program} {ops : Array Oper} {o : Oper} {a : Act} {Q : Exit → Act → World → Prop} {Kc : Act → World → Prop} {α : Type}
theorem R_append_at (d : Kd α) {w0 W : World} (base : Nat) (hw : Region.wanted o (yielded ops a.tmps) = true) (s x : Operand) (t e : TypeId) (z : Value) (bytes : Nat)
  (ho : o.op = .call { callee := .builtin .append, args := #[s, x], argTypes := #[t, t] })
  (ht : P.underlying t = some (.slice e)) (hinfo : (P.info? e).map (fun i => (i.zero, i.size, i.bytes)) = some (some z, d.sz, bytes)) (hz : z.cells.size = d.sz) (hs0 : 0 < d.sz) (hb0 : 0 < bytes)
  (v : Value) (xs : List α) (p : α) (cs : List Value) (ok okp : Nat → Prop) (g : Nat) (hs : a.eval s = v) (hx : a.eval x = .slice (some ⟨g, 0, none⟩) 1 1) (hg : W.heap[g]? = some (.cells cs.toArray e (0, 0)))
  (hp : d.M W base okp p cs) (hokp : ∀ k, okp k → ok k ∧ some k ≠ v.ownBlock) (hfresh : ∀ k, W.heap.size ≤ k → ok k)
  (HO : d.R e W base ok v xs) (HB : Below base w0 W) (hbase : base ≤ W.heap.size) (hl : (xs.length + 1) * bytes ≤ 140737488355328)
  (h : ∀ v1 w1, d.R e w1 base ok v1 (xs ++ [p]) → Below base w0 w1 → W.grownBy w1 v.ownBlock → (v1.ownBlock = v.ownBlock ∨ ∃ b, v1.ownBlock = some b ∧ W.heap.size ≤ b) → Kc (a.put o.dst v1) w1) :
  if Region.wanted o (yielded ops a.tmps) = true then Oper.wp P o a W Kc Q else Kc (a.put o.dst undef) W := by
 obtain ⟨h0, inner, hown, hr⟩ := HO
 obtain ⟨i0, hi, hzz⟩ := Option.map_eq_some_iff.1 hinfo
 simp only [Prod.mk.injEq] at hzz
 obtain ⟨hz0, hz1, hz2⟩ := hzz
 have hlen : xs.length + 1 ≤ 140737488355328 := Nat.le_trans (Nat.le_mul_of_pos_right _ hb0) hl
 have hys : cs.length = d.sz := d.K_len (d.K_of_M hp)
 rw [if_pos hw]
 obtain ⟨v1, w1, hrun, hown1, hg1, _, hat⟩ := run_append_own_at (P := P) W base t o.type e i0 z d.sz bytes ht hi hz0 hz1 hz2 hz hs0 v xs.length inner hown ⟨g, 0, none⟩ 1 1 cs (by rw [hys]; simp)
  (by simpa using World.news_of_block (cs := cs.toArray) (t := e) (fr := (0, 0)) hg) (d.K_one (d.K_of_M hp)) (by simp only [maxLen]; omega) hl hbase
 unfold Oper.wp execOp
 simp only [ho, resolve, invoke, builtin, Sem.run_bind, Sem.run_pure, Result.andThen_ok, List.map_toArray, List.map_cons, List.map_nil, hs, hx, hrun]
 have hat1 : v1.ownBlock = v.ownBlock ∨ ∃ b, v1.ownBlock = some b ∧ W.heap.size ≤ b := by
  rcases hat with hat | hat
  ·exact .inl hat
  ·exact .inr ⟨_, hat, Nat.le_refl _⟩
 exact h v1 w1 (Kd.R_appended h0 hr hp hokp hfresh hown1 hg1 hat1) (HB.grown hg1 hbase (own_base hown)) hg1 hat1
theorem N_append_at (d : Kd α) {w0 W : World} (base : Nat) (hw : Region.wanted o (yielded ops a.tmps) = true) (s x : Operand) (t e : TypeId) (z : Value) (bytes : Nat)
  (ho : o.op = .call { callee := .builtin .append, args := #[s, x], argTypes := #[t, t] })
  (ht : P.underlying t = some (.slice e)) (hinfo : (P.info? e).map (fun i => (i.zero, i.size, i.bytes)) = some (some z, d.sz, bytes)) (hz : z.cells.size = d.sz) (hs0 : 0 < d.sz) (hb0 : 0 < bytes)
  (v : Value) (xs : List α) (p : α) (cs : List Value) (ok okp : Nat → Prop) (g : Nat) (hs : a.eval s = v) (hx : a.eval x = .slice (some ⟨g, 0, none⟩) 1 1) (hg : W.heap[g]? = some (.cells cs.toArray e (0, 0)))
  (hp : Kd.FK d W okp p cs) (hokp : ∀ k, okp k → ok k ∧ some k ≠ v.ownBlock) (hfresh : ∀ k, W.heap.size ≤ k → ok k)
  (HO : Kd.N d e W base ok v xs) (HB : Below base w0 W) (hbase : base ≤ W.heap.size) (hl : (xs.length + 1) * bytes ≤ 140737488355328)
  (h : ∀ v1 w1, Kd.N d e w1 base ok v1 (xs ++ [p]) → Below base w0 w1 → W.grownBy w1 v.ownBlock → (v1.ownBlock = v.ownBlock ∨ ∃ b, v1.ownBlock = some b ∧ W.heap.size ≤ b) → Kc (a.put o.dst v1) w1) :
  if Region.wanted o (yielded ops a.tmps) = true then Oper.wp P o a W Kc Q else Kc (a.put o.dst undef) W := by
 obtain ⟨h0, rows, hlr, hR, hf⟩ := HO
 refine R_append_at (Kd.raw d.sz) base hw s x t e z bytes ho ht hinfo hz hs0 hb0 v rows cs cs (fun _ => True) (fun _ => False) g hs hx hg (Kd.FK_raw hp) (fun _ hk => hk.elim) (fun _ _ => trivial) (Kd.raw_any hR) HB hbase (by rw [hlr]; exact hl) ?_
 intro v1 w1 hr hb hg hat
 exact h v1 w1 (Kd.N_appended h0 hlr hf (ys := [p]) (news := [cs]) rfl (fun j y c hy hc => by
  rcases j with _ | j
  ·simp only [List.getElem?_cons_zero, Option.some.injEq] at hy hc
   rw [← hy, ← hc]; exact hp
  ·simp at hy) hokp hfresh hr hg hat) hb hg hat
end
section
variable {α : Type} (dq : Kd α) (tI tN tQ tW : Nat)
def WtF (f : Nat → Nat) (W : World) (B gX : Nat) (vq vN vS vo : Value) (steps : List α) (now : List Int) (st : List (List Int)) (out : List Int) : Prop :=
 f gX = 3 ∧ (Kd.int .i64).R tI W B (tg f 0) vo out ∧ Kd.N (Kd.slice tI (Kd.int .i64)) tN W B (tg2 f) vS st ∧ (∀ k, vS.ownBlock = some k → f k = 1) ∧ Kd.V (Kd.int .i64) tI W B (tg f 2) vN now ∧ Kd.V dq tQ W B (tg f 4) vq steps
def Wt (w0 W : World) (B gX : Nat) (cs : Array Value) (vq vN vS vo : Value) (steps : List α) (now : List Int) (st : List (List Int)) (out : List Int) : Prop :=
 Below B w0 W ∧ B ≤ gX ∧ W.heap[gX]? = some (.cells cs tW (0, 0)) ∧ ∃ f, WtF dq tI tN tQ f W B gX vq vN vS vo steps now st out
variable {dq tI tN tQ tW}
variable {w0 W w1 : World} {B gX : Nat} {cs : Array Value} {vq vN vS vo : Value} {steps : List α} {now : List Int} {st : List (List Int)} {out : List Int} {f f' : Nat → Nat}
theorem WtF.move (h : WtF dq tI tN tQ f W B gX vq vN vS vo steps now st out) (hm : ∀ k, k ≠ gX → k < W.heap.size → w1.heap[k]? = W.heap[k]?) : WtF dq tI tN tQ f w1 B gX vq vN vS vo steps now st out := by
 obtain ⟨h3, ho, hs, hw, hn, hq⟩ := h
 have ne : ∀ k, f k ≠ 3 → k ≠ gX := fun k hk e => hk (e ▸ h3)
 refine ⟨h3, Kd.R_step ho (fun k hk hlt => hm k (ne k ?_) hlt), Kd.N_step hs (fun k hk hlt => hm k (ne k ?_) hlt), hw, Kd.V_step hn (fun k hk hlt => hm k (ne k ?_) hlt), Kd.V_step hq (fun k hk hlt => hm k (ne k ?_) hlt)⟩
 ·have : f k = 0 := hk
  omega
 ·have : f k = 1 ∨ f k = 2 := hk
  omega
 ·have : f k = 2 := hk
  omega
 ·have : f k = 4 := hk
  omega
theorem Wt.base (h : Wt dq tI tN tQ tW w0 W B gX cs vq vN vS vo steps now st out) : B ≤ W.heap.size := Nat.le_trans h.2.1 (Nat.le_of_lt (blk_lt h.2.2.1))
theorem Wt.box (h : Wt dq tI tN tQ tW w0 W B gX cs vq vN vS vo steps now st out) : W.heap[gX]? = some (.cells cs tW (0, 0)) := h.2.2.1
theorem Wt.below (h : Wt dq tI tN tQ tW w0 W B gX cs vq vN vS vo steps now st out) (hb : Below W.heap.size W w1) : Wt dq tI tN tQ tW w0 w1 B gX cs vq vN vS vo steps now st out := by
 have hBs := h.base
 obtain ⟨hB, hg, hX, f, hF⟩ := h
 exact ⟨hB.trans (hb.mono hBs), hg, bb_ hX hb, f, hF.move (fun k _ hk => hb.block k hk)⟩
theorem Wt.alloc (h : Wt dq tI tN tQ tW w0 W B gX cs vq vN vS vo steps now st out) (o : Obj) : Wt dq tI tN tQ tW w0 (W.alloc o) B gX cs vq vN vS vo steps now st out := h.below (pA (Below.refl _ _) o)
theorem Wt.drew (h : Wt dq tI tN tQ tW w0 W B gX cs vq vN vS vo steps now st out) : Wt dq tI tN tQ tW w0 W.drew B gX cs vq vN vS vo steps now st out := h.below (below_drew (Below.refl _ _))
theorem Wt.set (h : Wt dq tI tN tQ tW w0 W B gX cs vq vN vS vo steps now st out) (j : Nat) (u : Value) : Wt dq tI tN tQ tW w0 (W.setCell ⟨gX, j, none⟩ u) B gX (cs.setIfInBounds j u) vq vN vS vo steps now st out := by
 obtain ⟨hB, hg, hX, f, hF⟩ := h
 exact ⟨hB.setCell hg _, hg, blk_put hX j u rfl, f, hF.move (fun k hk _ => Below.heap_setCell W ⟨gX, j, none⟩ u k hk)⟩
theorem Wt.forms (h : Wt dq tI tN tQ tW w0 W B gX cs vq vN vS vo steps now st out) : (∃ A c, vq = .slice A steps.length c ∧ steps.length ≤ c) ∧ (∃ A c, vN = .slice A now.length c ∧ now.length ≤ c) ∧ ∃ A c, vS = .slice A st.length c ∧ st.length ≤ c := by
 obtain ⟨hB, hg, hX, f, h3, ho, hs, hw, hn, hq⟩ := h
 obtain ⟨A, c, e, hl, _⟩ := hq
 obtain ⟨A2, c2, e2, hl2, _⟩ := hn
 obtain ⟨A3, c3, e3, hl3, _⟩ := Kd.N_reads hs
 exact ⟨⟨A, c, e, hl⟩, ⟨A2, c2, e2, hl2⟩, A3, c3, e3, hl3⟩
theorem Wt.readq {A : Option Addr} {n c : Nat} (h : Wt dq tI tN tQ tW w0 W B gX cs (.slice A n c) vN vS vo steps now st out) : dq.C W A steps.length steps := by
 obtain ⟨hB, hg, hX, f, h3, ho, hs, hw, hn, hq⟩ := h
 exact (Kd.V_reads' hq).2.2
theorem Wt.readn {A : Option Addr} {n c : Nat} (h : Wt dq tI tN tQ tW w0 W B gX cs vq (.slice A n c) vS vo steps now st out) : (Kd.int .i64).C W A now.length now := by
 obtain ⟨hB, hg, hX, f, h3, ho, hs, hw, hn, hq⟩ := h
 exact (Kd.V_reads' hn).2.2
theorem Wt.now_ (h : Wt dq tI tN tQ tW w0 W B gX cs vq vN vS vo steps now st out) (hb : Below W.heap.size W w1) {v : Value} {xs : List Int} {okk : Nat → Prop} (hr : (Kd.int .i64).R tI w1 W.heap.size okk v xs) : Wt dq tI tN tQ tW w0 w1 B gX cs vq v vS vo steps xs st out := by
 have hBs := h.base
 obtain ⟨hB, hg, hX, f, h3, ho, hs, hw, hn, hq⟩ := h
 have lt : ∀ k, k < W.heap.size → upT f W.heap.size 2 k = f k := fun k hk => upT_lt hk
 refine ⟨hB.trans (hb.mono hBs), hg, bb_ hX hb, upT f W.heap.size 2, (lt _ (blk_lt hX)).trans h3, ?_, ?_, fun k hk => (lt _ (Kd.N_lt hs k hk)).trans (hw k hk), ?_, ?_⟩
 ·exact Kd.R_mono (Kd.R_below (Kd.R_bound ho) hb) (fun k hk => (lt k hk.2.2.1).trans hk.1)
 ·exact Kd.N_mono (Kd.N_below (Kd.N_bound hs) hb) (fun k hk => by unfold tg2; rw [lt k hk.2]; exact hk.1)
 ·exact Kd.V_mono (Kd.R_V (Kd.R_bound hr)) (fun k hk => upT_ge hk.2.1)
 ·exact Kd.V_mono (Kd.V_below (Kd.V_bound hq) hb) (fun k hk => (lt k hk.2).trans hk.1)
theorem Wt.out_ (h : Wt dq tI tN tQ tW w0 W B gX cs vq vN vS vo steps now st out) (hb : Below W.heap.size W w1) {v : Value} {xs : List Int} {okk : Nat → Prop} (hr : (Kd.int .i64).R tI w1 W.heap.size okk v xs) : Wt dq tI tN tQ tW w0 w1 B gX cs vq vN vS v steps now st xs := by
 have hBs := h.base
 obtain ⟨hB, hg, hX, f, h3, ho, hs, hw, hn, hq⟩ := h
 have lt : ∀ k, k < W.heap.size → upT f W.heap.size 0 k = f k := fun k hk => upT_lt hk
 refine ⟨hB.trans (hb.mono hBs), hg, bb_ hX hb, upT f W.heap.size 0, (lt _ (blk_lt hX)).trans h3, Kd.R_mono (Kd.R_lower (Kd.R_bound hr) hBs) (fun k hk => upT_ge hk.2.1), ?_, fun k hk => (lt _ (Kd.N_lt hs k hk)).trans (hw k hk), ?_, ?_⟩
 ·exact Kd.N_mono (Kd.N_below (Kd.N_bound hs) hb) (fun k hk => by unfold tg2; rw [lt k hk.2]; exact hk.1)
 ·exact Kd.V_mono (Kd.V_below (Kd.V_bound hn) hb) (fun k hk => (lt k hk.2).trans hk.1)
 ·exact Kd.V_mono (Kd.V_below (Kd.V_bound hq) hb) (fun k hk => (lt k hk.2).trans hk.1)
theorem Wt.top {A : Option Addr} {c n : Nat} (h : Wt dq tI tN tQ tW w0 W B gX cs vq vN (.slice A n c) vo steps now st out) {m : Nat} (hm : m + 1 = st.length) : ∃ (g : Nat) (vE : Value), A = some ⟨g, 0, none⟩ ∧ W.cell? ⟨g, m, none⟩ = some vE ∧ ∃ (A2 : Option Addr) (n2 c2 : Nat), vE = .slice A2 n2 c2 := by
 obtain ⟨hB, hgg, hX, f, h3, ho, hs, hw, hn, hq⟩ := h
 obtain ⟨g, cap, e, _⟩ := Kd.N_form hs (by omega)
 injection e with e1 e2 e3
 subst e1
 have hn1 := (Kd.N_reads' hs).1
 obtain ⟨cE, hl, hF, hc⟩ := Kd.N_get hs [] (m : Int) (by omega) (by omega)
 rw [Int.toNat_natCast] at hF hc
 obtain ⟨A2, c2, eE, hlE, hFE⟩ := Kd.FK_slice_open hF
 have h0 := hc 0 _ (by rw [eE]; rfl)
 have hsz : (Kd.slice tI (Kd.int .i64)).sz = 1 := rfl
 rw [hsz, Nat.mul_one, Nat.add_zero, add_at, Nat.zero_add] at h0
 exact ⟨g, _, rfl, h0, A2, _, c2, rfl⟩
theorem Wt.pop {g c n : Nat} (h : Wt dq tI tN tQ tW w0 W B gX cs vq vN (.slice (some ⟨g, 0, none⟩) n c) vo steps now st out) {vE : Value} {m : Nat} (hm : m + 1 = st.length) (hE : W.cell? ⟨g, m, none⟩ = some vE) :
  Wt dq tI tN tQ tW w0 W B gX cs vq vE (.slice (some ⟨g, 0, none⟩) m c) vo steps (st.getD m []) (st.take m) out := by
 obtain ⟨hB, hgg, hX, f, h3, ho, hs, hw, hn, hq⟩ := h
 have hn1 := (Kd.N_reads' hs).1
 obtain ⟨cE, hl, hF, hc⟩ := Kd.N_get hs [] (m : Int) (by omega) (by omega)
 rw [Int.toNat_natCast] at hF hc
 obtain ⟨A2, c2, eE, hlE, hFE⟩ := Kd.FK_slice_open hF
 have h0 := hc 0 _ (by rw [eE]; rfl)
 have hsz : (Kd.slice tI (Kd.int .i64)).sz = 1 := rfl
 rw [hsz, Nat.mul_one, Nat.add_zero, add_at, Nat.zero_add, hE] at h0
 obtain rfl : vE = _ := Option.some.inj h0
 have e2 : (Value.slice (some ⟨g, 0, none⟩) n c).ownBlock = (Value.slice (some ⟨g, 0, none⟩) m c).ownBlock := rfl
 let f' : Nat → Nat := fun k => if some k = (Value.slice (some ⟨g, 0, none⟩) m c).ownBlock then 1 else if f k = 1 then 2 else f k
 have f3 : f' gX = 3 := by
  show (if _ then _ else _) = _
  rw [if_neg (fun e => by have := hw gX (by rw [e2]; exact e.symm); omega), if_neg (by omega)]; exact h3
 have fo : ∀ j, j ≠ 1 → ∀ k, f k = j → f' k = j ∨ f' k = 1 := fun j hj k hk => by
  show (if _ then _ else _) = _ ∨ (if _ then _ else _) = _
  by_cases e : some k = (Value.slice (some ⟨g, 0, none⟩) m c).ownBlock
  ·exact .inr (if_pos e)
  ·rw [if_neg e, if_neg (by omega)]; exact .inl hk
 have fx : ∀ j, j ≠ 1 → ∀ k, f k = j → f' k = j := fun j hj k hk => by
  rcases fo j hj k hk with h | h
  ·exact h
  ·exfalso
   by_cases e : some k = (Value.slice (some ⟨g, 0, none⟩) m c).ownBlock
   ·have := hw k (by rw [e2]; exact e.symm); omega
   ·have h9 : f' k = f k := by
     show (if _ then _ else _) = _
     rw [if_neg e, if_neg (by omega)]
    omega
 have f12 : ∀ k, tg2 f k → tg2 f' k := fun k hk => by
  rcases hk with hk | hk
  ·by_cases e : some k = (Value.slice (some ⟨g, 0, none⟩) m c).ownBlock
   ·exact .inl (if_pos e)
   ·refine .inr ?_
    show (if _ then _ else _) = _
    rw [if_neg e, if_pos hk]
  ·exact .inr (fx 2 (by decide) k hk)
 refine ⟨hB, hgg, hX, f', f3, Kd.R_mono ho (fun k hk => fx 0 (by decide) k hk), Kd.N_mono (Kd.N_take hs (by omega)) f12, fun k hk => if_pos hk.symm, ?_, Kd.V_mono hq (fun k hk => fx 4 (by decide) k hk)⟩
 refine ⟨A2, c2, rfl, hlE, Kd.F_mono hFE (fun k hk => ?_)⟩
 obtain ⟨hk1, hk2⟩ := hk
 rw [e2] at hk2
 rcases hk1 with hk1 | hk1
 ·show (if _ then _ else _) = _
  rw [if_neg hk2, if_pos hk1]
 ·exact fx 2 (by decide) k hk1
end
section
variable {P : Program} {ops : Array Oper} {rest : List Oper} {o : Oper} {a : Act} {Q : Exit → Act → World → Prop} {Kc : Act → World → Prop} {α : Type}
variable {dq : Kd α} {tI tN tQ tW : Nat}
variable {w0 W w1 : World} {B gX : Nat} {cs : Array Value} {vq vN vS vo : Value} {steps : List α} {now : List Int} {st : List (List Int)} {out : List Int} {f f' : Nat → Nat}
theorem Wt.app_o (h : Wt dq tI tN tQ tW w0 W B gX cs vq vN vS vo steps now st out) (hgd : o.guard = none) (s x : Operand) (t : TypeId)
  (ho : o.op = .call { callee := .builtin .append, args := #[s, x], argTypes := #[t, t] }) (ht : P.underlying t = some (.slice tI)) (hinfo : (P.info? tI).map (fun i => (i.zero, i.size, i.bytes)) = some (some (.int .i64 0), 1, 8))
  (y : Int) (hs : a.eval s = vo) (hx : a.eval x = .slice (some ⟨W.heap.size, 0, none⟩) 1 1) (hl : (out.length + 1) * 8 ≤ 140737488355328)
  (k : ∀ v1 w1, Wt dq tI tN tQ tW w0 w1 B gX cs vq vN vS v1 steps now st (out ++ [y]) → wpList P ops Q rest (a.put o.dst v1) w1) :
  wpList P ops Q (o :: rest) a (W.alloc (.cells [Value.int .i64 y].toArray tI)) := by
 have hBs := h.base
 obtain ⟨hB, hg, hX, f, h3, ho2, hss, hw, hn, hq⟩ := h
 have lt : ∀ k, k < W.heap.size → upT f W.heap.size 0 k = f k := fun k hk => upT_lt hk
 refine Kd.R_append (Kd.int .i64) B hgd s x t tI (.int .i64 0) 8 ho ht hinfo rfl (by decide) (by decide) vo out y [.int .i64 y] (tg (upT f W.heap.size 0) 0) (fun _ => False) hs hx rfl (fun _ hk => hk.elim) (fun k hk => upT_ge hk) (Kd.R_mono (Kd.R_bound ho2) (fun k hk => (lt k hk.2.2.1).trans hk.1)) hB hBs hl ?_
 intro v1 w1 hr hb1 hgr hat
 have ne : ∀ k, k < W.heap.size → f k ≠ 0 → w1.heap[k]? = W.heap[k]? := fun k hk h0 => hgr.block k hk (fun e => h0 (ho2.1 k e.symm))
 refine k v1 w1 ⟨hb1, hg, (ne gX (blk_lt hX) (by omega)).trans hX, upT f W.heap.size 0, (lt _ (blk_lt hX)).trans h3, hr, ?_, fun k hk => (lt _ (Kd.N_lt hss k hk)).trans (hw k hk), ?_, ?_⟩
 ·refine Kd.N_mono (Kd.N_step (Kd.N_bound hss) (fun k hk hlt => ne k hlt ?_)) (fun k hk => by unfold tg2; rw [lt k hk.2]; exact hk.1)
  have : f k = 1 ∨ f k = 2 := hk.1
  omega
 ·refine Kd.V_mono (Kd.V_step (Kd.V_bound hn) (fun k hk hlt => ne k hlt ?_)) (fun k hk => (lt k hk.2).trans hk.1)
  have : f k = 2 := hk.1
  omega
 ·refine Kd.V_mono (Kd.V_step (Kd.V_bound hq) (fun k hk hlt => ne k hlt ?_)) (fun k hk => (lt k hk.2).trans hk.1)
  have : f k = 4 := hk.1
  omega
theorem Wt.app_s (h : Wt dq tI tN tQ tW w0 W B gX cs vq vN vS vo steps now st out) (hwt : Region.wanted o (yielded ops a.tmps) = true) (s x : Operand) (t : TypeId)
  (ho : o.op = .call { callee := .builtin .append, args := #[s, x], argTypes := #[t, t] }) (ht : P.underlying t = some (.slice tN)) (hinfo : (P.info? tN).map (fun i => (i.zero, i.size, i.bytes)) = some (some (.slice none 0 0), 1, 24))
  (g : Nat) (hs : a.eval s = vS) (hx : a.eval x = .slice (some ⟨g, 0, none⟩) 1 1) (hgv : W.heap[g]? = some (.cells [vN].toArray tN (0, 0))) (hl : (st.length + 1) * 24 ≤ 140737488355328)
  (k : ∀ v1 w1, Wt dq tI tN tQ tW w0 w1 B gX cs vq vN v1 vo steps now (st ++ [now]) out → Kc (a.put o.dst v1) w1) :
  if Region.wanted o (yielded ops a.tmps) = true then Oper.wp P o a W Kc Q else Kc (a.put o.dst undef) W := by
 have hBs := h.base
 obtain ⟨hB, hg, hX, f, h3, ho2, hss, hw, hn, hq⟩ := h
 have lt : ∀ k, k < W.heap.size → upT f W.heap.size 1 k = f k := fun k hk => upT_lt hk
 obtain ⟨An, cn, eN, hnl, hnF⟩ := id hn
 refine N_append_at (Kd.slice tI (Kd.int .i64)) B hwt s x t tN (.slice none 0 0) 24 ho ht hinfo rfl Nat.zero_lt_one (by decide) vS st now [vN] (tg2 (upT f W.heap.size 1)) (fun k => f k = 2 ∧ k < W.heap.size) g hs hx hgv ?_ ?_ (fun k hk => .inl (upT_ge hk)) (Kd.N_mono (Kd.N_bound hss) (fun k hk => by unfold tg2; rw [lt k hk.2]; exact hk.1)) hB hBs hl ?_
 ·rw [eN]
  exact Kd.FK_slice_mk hnl (Kd.F_bound hnF)
 ·intro k hk
  refine ⟨.inr ((lt k hk.2).trans hk.1), fun e => ?_⟩
  have := hw k e.symm
  have := hk.1
  omega
 intro v1 w1 hr hb1 hgr hat
 have ne : ∀ k, k < W.heap.size → f k ≠ 1 → w1.heap[k]? = W.heap[k]? := fun k hk h0 => hgr.block k hk (fun e => h0 (hw k e.symm))
 refine k v1 w1 ⟨hb1, hg, (ne gX (blk_lt hX) (by omega)).trans hX, upT f W.heap.size 1, (lt _ (blk_lt hX)).trans h3, ?_, hr, ?_, ?_, ?_⟩
 ·refine Kd.R_mono (Kd.R_step (Kd.R_bound ho2) (fun k hk hlt => ne k hlt ?_)) (fun k hk => (lt k hk.2.2.1).trans hk.1)
  have : f k = 0 := hk.1
  omega
 ·intro k hk
  rcases hat with hat | ⟨b, hb, hle⟩
  ·rw [hat] at hk
   exact (lt k (Kd.N_lt hss k hk)).trans (hw k hk)
  ·rw [hb] at hk
   injection hk with hk
   exact upT_ge (by omega)
 ·refine Kd.V_mono (Kd.V_step (Kd.V_bound hn) (fun k hk hlt => ne k hlt ?_)) (fun k hk => (lt k hk.2).trans hk.1)
  have : f k = 2 := hk.1
  omega
 ·refine Kd.V_mono (Kd.V_step (Kd.V_bound hq) (fun k hk hlt => ne k hlt ?_)) (fun k hk => (lt k hk.2).trans hk.1)
  have : f k = 4 := hk.1
  omega
end
section
variable {α : Type} {dq : Kd α} {w0 W : World} {B gX : Nat} {cs : Array Value} {vq vN vS : Value} {steps : List α} {now : List Int} {ok1 ok2 ok3 : Nat → Prop}
theorem Wt.start (hE : dq.E = []) (hB : Below B w0 W) (hg : B ≤ gX) (hX : W.heap[gX]? = some (.cells cs 51 (0, 0))) (hq : dq.R 62 W B ok1 vq steps) (hn : (Kd.int .i64).R 2 W B ok2 vN now) (hs : Kd.S (Kd.slice 2 (Kd.int .i64)) 34 W B ok3 vS []) :
  Wt dq 2 34 62 51 w0 W B gX cs vq vN vS (.slice none 0 0) steps now [] [] := by
 let f : Nat → Nat := fun k => match W.heap[k]? with | some (.cells _ t _) => if t = 62 then 4 else if t = 34 then 1 else if t = 2 then 2 else 3 | _ => 3
 have ft : ∀ k t cells, W.heap[k]? = some (.cells cells t (0, 0)) → f k = if t = 62 then 4 else if t = 34 then 1 else if t = 2 then 2 else 3 := fun k t cells h => by
  show (match W.heap[k]? with | some (.cells _ t _) => _ | _ => _) = _
  rw [h]
 have hN := Kd.S_N hs
 have hty := Kd.N_typed hN
 obtain ⟨h0, rows, hl, hR, _⟩ := hN
 have w1 : ∀ k, vS.ownBlock = some k → f k = 1 := fun k hk => by
  obtain ⟨cells, hc⟩ := hty k hk
  rw [ft k _ _ hc]; rfl
 refine ⟨hB, hg, hX, f, by rw [ft _ _ _ hX]; rfl, Kd.R_nil _ _ _ _ _, ⟨fun k hk => .inl (w1 k hk), rows, hl, hR, fun j x c hx hc => by simp at hx⟩, w1, ?_, ?_⟩
 ·refine Kd.V_mono (Kd.R_V (Kd.R_bound hn)) (fun k hk => ?_)
  obtain ⟨_, _, _, q, hq, cells, hc⟩ := hk
  have e : q = 2 := by simpa [Kd.int, Kd.scalar] using hq
  show f k = 2
  rw [ft k _ _ hc, e]; rfl
 ·refine Kd.V_mono (Kd.R_V (Kd.R_bound hq)) (fun k hk => ?_)
  obtain ⟨_, _, _, q, hq, cells, hc⟩ := hk
  have e : q = 62 := by rw [hE] at hq; simpa using hq
  show f k = 4
  rw [ft k _ _ hc, e]; rfl
end
end Go.Proofs.Yteeplponconnjaa.Wa
namespace Go.Proofs.Yteeplponconnjaa.P
open Go.RowKit Go.Proofs.YteeplponconnjaaW.PrintWords Go.Proofs.YteeplponconnjaaW.PrintLast Go.Proofs.YteeplponconnjaaW.PrintMore
attribute [local go_sem] max2_int min2_int max_two min_two max_three min_three max_four min_four
set_option linter.unusedVariables false
set_option linter.unusedSimpArgs false
def impl_isReturn.f (a0 : Int) : Option (Bool) := if a0 = 41 then (some true) else (some (a0 == 93))
set_option maxHeartbeats 8000000 in
set_option maxRecDepth 100000 in
theorem impl_isReturn.calls (a0 : Int) (r : Bool) (w : World) (h : impl_isReturn.f a0 = some r) :
  Calls Try.prog 43 #[.int .u8 a0] w fun e w' => e = .returned (.bool r) ∧ Drawn0 w w' := by
 have H : (if a0 = 41 then (some true) else (some (a0 == 93))) = some r := h
 clear h
 by_cases c2 : a0 = 41
 rotate_left
 ·rw [if_neg c2] at H
  have c2b0 : (a0 == 41) = false := beq_eq_false_iff_ne.mpr c2
  have c2b1 : (a0 != 41) = true := bne_iff_ne.mpr c2
  obtain rfl := Option.some.inj H
  go_enter Try.func43, Try.ntmps43
  go_wp2
  go_ret
  exact ⟨by first | rfl | (simp; done) | (simp [*]; done), by repeat (first | exact Drawn0.refl _ | apply Drawn0.step)⟩
 rw [if_pos c2] at H
 have c2b0 : (a0 == 41) = true := beq_iff_eq.mpr c2
 have c2b1 : (a0 != 41) = false := bne_eq_false_iff_eq.mpr c2
 clear c2
 obtain rfl := Option.some.inj H
 go_enter Try.func43, Try.ntmps43
 go_wp2
 go_ret
 exact ⟨by first | rfl | (simp; done) | (simp [*]; done), by repeat (first | exact Drawn0.refl _ | apply Drawn0.step)⟩
end Go.Proofs.Yteeplponconnjaa.P
namespace Go.Proofs.Yteeplponconnjaa.P
open Go.RowKit Go.Proofs.YteeplponconnjaaW.PrintWords Go.Proofs.YteeplponconnjaaW.PrintLast Go.Proofs.YteeplponconnjaaW.PrintMore
attribute [local go_sem] max2_int min2_int max_two min_two max_three min_three max_four min_four
set_option linter.unusedVariables false
set_option linter.unusedSimpArgs false
def impl_isNode.f (a0 : Int) : Option (Bool) := (impl_isReturn.f a0).bind fun t230 => (some (!t230))
set_option maxHeartbeats 8000000 in
set_option maxRecDepth 100000 in
theorem impl_isNode.calls (a0 : Int) (r : Bool) (w : World) (h : impl_isNode.f a0 = some r) :
  Calls Try.prog 54 #[.int .u8 a0] w fun e w' => e = .returned (.bool r) ∧ Drawn0 w w' := by
 have H : ((impl_isReturn.f a0).bind fun t230 => (some (!t230))) = some r := h
 clear h
 replace H := Option.bind_eq_some_iff.mp H
 obtain ⟨t230, A20, H⟩ := H
 replace H : (some (!t230)) = some r := H
 have A2 := AZ.mk A20
 clear A20
 obtain rfl := Option.some.inj H
 go_enter Try.func54, Try.ntmps54
 go_wp2_with (first | ((with_reducible refine gate_callee (f := 43) rfl ?_); refine goesL_ (some 4) rfl rfl Try.func43 (by kernel_rfl) rfl #[.int .u8 a0] rfl (by (try simp only [List.map_toArray, List.map_cons, List.map_nil]); first | done | rfl | (simp only [List.length_drop, List.length_take]; rfl)) ?_; (with_reducible refine (impl_isReturn.calls a0 t230 _ A2.out).mono ?_); rintro e w' ⟨rfl, ⟨nd, rfl⟩⟩; refine ⟨_, rfl, ?_⟩))
 go_ret
 exact ⟨by first | rfl | (simp; done) | (simp [*]; done), by repeat (first | exact Drawn0.refl _ | apply Drawn0.step)⟩
end Go.Proofs.Yteeplponconnjaa.P
namespace Go.Proofs.Yteeplponconnjaa.P
open Go.RowKit Go.Proofs.YteeplponconnjaaW.PrintWords Go.Proofs.YteeplponconnjaaW.PrintLast Go.Proofs.YteeplponconnjaaW.PrintMore
attribute [local go_sem] max2_int min2_int max_two min_two max_three min_three max_four min_four
set_option linter.unusedVariables false
set_option linter.unusedSimpArgs false
def slices_Index_Lint64_int64.l0 : Nat → List Int → Int → Int → Int → Option (Int)
 | 0, _, _, _, _ => none
 | k + 1, x0, x1, x7, x8 => if x8 < x7 then (if 0 ≤ x8 then (if x8 < (x0.length : Int) then (if x1 = (rd x0 x8) then (some x8) else (slices_Index_Lint64_int64.l0 k x0 x1 x7 (wrap64 (x8 + 1)))) else (none)) else (none)) else (some (-1))
def slices_Index_Lint64_int64.f (k : Nat) (l0 : List Int) (a1 : Int) : Option (Int) := slices_Index_Lint64_int64.l0 k l0 a1 (l0.length : Int) 0
set_option maxHeartbeats 8000000 in
set_option maxRecDepth 100000 in
theorem slices_Index_Lint64_int64.calls (k : Nat) (A0 : Option Addr) (c0 : Nat) (l0 : List Int) (a1 : Int) (r : Int) (w : World) (hr0 : Kd.C (Kd.int .i64) w A0 l0.length l0) (hc0 : l0.length ≤ c0) (h : slices_Index_Lint64_int64.f k l0 a1 = some r) :
  Calls Try.prog 63 #[.slice A0 l0.length c0, .int .i64 a1] w fun e w' => e = .returned (.int .i64 r) ∧ Drawn0 w w' := by
 have HR0 := AZ.mk hr0
 have HC0 := AZ.mk hc0
 clear hr0 hc0
 have H : (slices_Index_Lint64_int64.l0 k l0 a1 (l0.length : Int) 0) = some r := h
 clear h
 have H' := AZ.mk H
 clear H
 go_enter Try.func63, Try.ntmps63
 go_wp2
 go_loopg [8] k (fun kq v8 w' => ∃ (x8_1 : Int), v8 = .int .i64 x8_1 ∧ AZ (slices_Index_Lint64_int64.l0 kq l0 a1 (l0.length : Int) x8_1 = some r) ∧ AZ (kq ≤ k) ∧ Drawn0 w w')
 case atStart => exact ⟨(0), (by first | rfl | (simp; done) | (simp [*]; done)), H', ⟨Nat.le_refl _⟩, by repeat (first | exact Drawn0.refl _ | apply Drawn0.step)⟩
 case round =>
  clear H'
  try clear p2
  obtain ⟨x8_1, rfl, HA, HK1, ⟨m1, rfl⟩⟩ := hrel
  cases gk with
  | zero => exact absurd HA.out (by simp [slices_Index_Lint64_int64.l0])
  | succ k1 =>
   have H := HA.out
   clear HA
   simp only [slices_Index_Lint64_int64.l0] at H
   by_cases c3 : x8_1 < (l0.length : Int)
   rotate_left
   ·rw [if_neg c3] at H
    have c3b0 : decide (x8_1 < (l0.length : Int)) = false := decide_eq_false c3
    clear c3
    obtain rfl := Option.some.inj H
    go_wp2
    go_ret
    exact ⟨by first | rfl | (simp; done) | (simp [*]; done), by repeat (first | exact Drawn0.refl _ | apply Drawn0.step)⟩
   rw [if_pos c3] at H
   have c3b0 : decide (x8_1 < (l0.length : Int)) = true := decide_eq_true c3
   clear c3
   by_cases c4 : 0 ≤ x8_1
   rotate_left
   ·rw [if_neg c4] at H
    exact absurd H (by simp)
   rw [if_pos c4] at H
   have c4b0 : decide (0 ≤ x8_1) = true := decide_eq_true c4
   clear c4
   by_cases c5 : x8_1 < (l0.length : Int)
   rotate_left
   ·rw [if_neg c5] at H
    exact absurd H (by simp)
   rw [if_pos c5] at H
   have c5b0 : decide (x8_1 < (l0.length : Int)) = true := decide_eq_true c5
   clear c5
   by_cases c6 : a1 = (rd l0 x8_1)
   ·rw [if_pos c6] at H
    have c6b0 : (a1 == (rd l0 x8_1)) = true := beq_iff_eq.mpr c6
    have c6b1 : (a1 != (rd l0 x8_1)) = false := bne_eq_false_iff_eq.mpr c6
    clear c6
    obtain rfl := Option.some.inj H
    have p231 : 0 ≤ (x8_1 : Int) := oT (by first | (with_reducible assumption) | assumption)
    have q231 : x8_1 < (l0.length : Int) := oT (by first | (with_reducible assumption) | assumption)
    obtain ⟨ad231, e231, hx231_0⟩ := Kd.at_int HR0.out x8_1 p231 q231
    cases e231
    replace p231 := eq_true p231
    replace q231 := eq_true q231
    go_wp2
    go_ret
    exact ⟨by first | rfl | (simp; done) | (simp [*]; done), by repeat (first | exact Drawn0.refl _ | apply Drawn0.step)⟩
   rw [if_neg c6] at H
   have c6b0 : (a1 == (rd l0 x8_1)) = false := beq_eq_false_iff_ne.mpr c6
   have c6b1 : (a1 != (rd l0 x8_1)) = true := bne_iff_ne.mpr c6
   have H' := AZ.mk H
   clear H
   have p231 : 0 ≤ (x8_1 : Int) := oT (by first | (with_reducible assumption) | assumption)
   have q231 : x8_1 < (l0.length : Int) := oT (by first | (with_reducible assumption) | assumption)
   obtain ⟨ad231, e231, hx231_0⟩ := Kd.at_int HR0.out x8_1 p231 q231
   cases e231
   replace p231 := eq_true p231
   replace q231 := eq_true q231
   go_wp2
   go_roundg k1
   case measure => have := HK1.out; omega
   case rel => exact ⟨(wrap64 (x8_1 + 1)), (by first | rfl | (simp; done) | (simp [*]; done)), H', ⟨by have := HK1.out; omega⟩, by repeat (first | exact Drawn0.refl _ | apply Drawn0.step)⟩
end Go.Proofs.Yteeplponconnjaa.P
namespace Go.Proofs.Yteeplponconnjaa.P
open Go.RowKit Go.Proofs.YteeplponconnjaaW.PrintWords Go.Proofs.YteeplponconnjaaW.PrintLast Go.Proofs.YteeplponconnjaaW.PrintMore
attribute [local go_sem] max2_int min2_int max_two min_two max_three min_three max_four min_four
set_option linter.unusedVariables false
set_option linter.unusedSimpArgs false
def slices_Contains_Lint64_int64.f (k : Nat) (l0 : List Int) (a1 : Int) : Option (Bool) := (slices_Index_Lint64_int64.f k l0 a1).bind fun t232 => (some (decide (t232 ≥ 0)))
set_option maxHeartbeats 8000000 in
set_option maxRecDepth 100000 in
theorem slices_Contains_Lint64_int64.calls (k : Nat) (A0 : Option Addr) (c0 : Nat) (l0 : List Int) (a1 : Int) (r : Bool) (w : World) (hr0 : Kd.C (Kd.int .i64) w A0 l0.length l0) (hc0 : l0.length ≤ c0) (h : slices_Contains_Lint64_int64.f k l0 a1 = some r) :
  Calls Try.prog 55 #[.slice A0 l0.length c0, .int .i64 a1] w fun e w' => e = .returned (.bool r) ∧ Drawn0 w w' := by
 have HR0 := AZ.mk hr0
 have HC0 := AZ.mk hc0
 clear hr0 hc0
 have H : ((slices_Index_Lint64_int64.f k l0 a1).bind fun t232 => (some (decide (t232 ≥ 0)))) = some r := h
 clear h
 replace H := Option.bind_eq_some_iff.mp H
 obtain ⟨t232, A30, H⟩ := H
 replace H : (some (decide (t232 ≥ 0))) = some r := H
 have A3 := AZ.mk A30
 clear A30
 obtain rfl := Option.some.inj H
 go_enter Try.func55, Try.ntmps55
 go_wp2_with (first | ((with_reducible refine gate_callee (f := 63) rfl ?_); refine goesL_ (some 7) rfl rfl Try.func63 (by kernel_rfl) rfl #[.slice A0 l0.length c0, .int .i64 a1] rfl (by (try simp only [List.map_toArray, List.map_cons, List.map_nil]); first | done | rfl | (simp only [List.length_drop, List.length_take]; rfl)) ?_; (with_reducible refine (slices_Index_Lint64_int64.calls k _ _ l0 a1 t232 _ ?side1 ?side2 A3.out).mono ?_); (case side1 => repeat (first | exact HR0.out | (with_reducible refine Kd.C_alloc ?_ _) | (with_reducible refine Kd.C_drewN ?_ _) | (with_reducible refine Kd.C_drew ?_))); (case side2 => exact HC0.out); rintro e w' ⟨rfl, ⟨nd, rfl⟩⟩; refine ⟨_, rfl, ?_⟩))
 go_ret
 exact ⟨by first | rfl | (simp; done) | (simp [*]; done), by repeat (first | exact Drawn0.refl _ | apply Drawn0.step)⟩
end Go.Proofs.Yteeplponconnjaa.P
namespace Go.Proofs.Yteeplponconnjaa.P
open Go.RowKit Go.Proofs.YteeplponconnjaaW.PrintWords Go.Proofs.YteeplponconnjaaW.PrintLast Go.Proofs.YteeplponconnjaaW.PrintMore
attribute [local go_sem] max2_int min2_int max_two min_two max_three min_three max_four min_four
set_option linter.unusedVariables false
set_option linter.unusedSimpArgs false
def impl_size_impl_QueryStep.f (l0 : List (S62)) : Option (Int) := some (l0.length : Int)
set_option maxHeartbeats 8000000 in
set_option maxRecDepth 100000 in
theorem impl_size_impl_QueryStep.calls (A0 : Option Addr) (c0 : Nat) (l0 : List (S62)) (r : Int) (w : World) (hr0 : Kd.C k62 w A0 l0.length l0) (hc0 : l0.length ≤ c0) (h : impl_size_impl_QueryStep.f l0 = some r) :
  Calls Try.prog 34 #[.slice A0 l0.length c0] w fun e w' => e = .returned (.int .i64 r) ∧ Drawn0 w w' := by
 have HR0 := AZ.mk hr0
 have HC0 := AZ.mk hc0
 clear hr0 hc0
 have H : (some (l0.length : Int)) = some r := h
 clear h
 obtain rfl := Option.some.inj H
 go_enter Try.func34, Try.ntmps34
 go_wp2
 go_ret
 exact ⟨by first | rfl | (simp; done) | (simp [*]; done), by repeat (first | exact Drawn0.refl _ | apply Drawn0.step)⟩
end Go.Proofs.Yteeplponconnjaa.P
namespace Go.Proofs.Yteeplponconnjaa.P
open Go.RowKit Go.Proofs.YteeplponconnjaaW.PrintWords Go.Proofs.YteeplponconnjaaW.PrintLast Go.Proofs.YteeplponconnjaaW.PrintMore
attribute [local go_sem] max2_int min2_int max_two min_two max_three min_three max_four min_four
set_option linter.unusedVariables false
set_option linter.unusedSimpArgs false
def impl_Query_last.f (l0_0 : List (S62)) : Option (Int) := (impl_size_impl_QueryStep.f l0_0).bind fun t234 => (some (wrap64 (t234 - 1)))
set_option maxHeartbeats 8000000 in
set_option maxRecDepth 100000 in
theorem impl_Query_last.calls (A0_0 : Option Addr) (c0_0 : Nat) (l0_0 : List (S62)) (r : Int) (w : World) (hr0_0 : Kd.C k62 w A0_0 l0_0.length l0_0) (hc0_0 : l0_0.length ≤ c0_0) (h : impl_Query_last.f l0_0 = some r) :
  Calls Try.prog 56 #[.agg #[.slice A0_0 l0_0.length c0_0]] w fun e w' => e = .returned (.int .i64 r) ∧ Below w.heap.size w w' := by
 have hu30 := Try.underlying30
 have HR0_0 := AZ.mk hr0_0
 have HC0_0 := AZ.mk hc0_0
 clear hr0_0 hc0_0
 have HB := AZ.mk (Below.refl w.heap.size w)
 have H : ((impl_size_impl_QueryStep.f l0_0).bind fun t234 => (some (wrap64 (t234 - 1)))) = some r := h
 clear h
 replace H := Option.bind_eq_some_iff.mp H
 obtain ⟨t234, A20, H⟩ := H
 replace H : (some (wrap64 (t234 - 1))) = some r := H
 have A2 := AZ.mk A20
 clear A20
 obtain rfl := Option.some.inj H
 go_enter Try.func56, Try.ntmps56
 go_wp2_with (first | ((with_reducible refine gate_dst (N := 1) rfl ?_); refine box_event ?hg (N := 1) ?hd (cs := #[.slice A0_0 l0_0.length c0_0]) (t := 30) ?hr ?_; (case hd => rfl); (case hg => rfl); (case hr => first | (go_simp; done) | (go_simp; rfl)); intro gb233 hg w3 hbox hb; have n0_ := AZ.mk (pT (by repeat (first | (with_reducible first | exact HB.out | apply pA | apply pN | apply pD) | exact HB.out)) hb); have n1_ := AZ.mk (hbox); have n2_ := AZ.mk ((by rw [hg]; exact (pZ (by repeat (first | (with_reducible first | exact HB.out | apply pA | apply pN | apply pD) | exact HB.out))) : w.heap.size ≤ gb233)); have n3_ := AZ.mk ((by rw [hg]; exact (pZ (by repeat (first | (with_reducible first | exact HB.out | apply pA | apply pN | apply pD) | exact HB.out))) : w.heap.size ≤ gb233)); clear HB; have HB := n0_; have BK233 := n1_; have GW233 := n2_; have GE233 := n3_; clear n0_ n1_ n2_ n3_; clear hb hbox hg; have hcz4_0 : w3.cell? ⟨gb233, 0, none⟩ = some (.slice A0_0 l0_0.length c0_0) := (bc BK233.out 0).trans rfl; have hfz4_0 := bf BK233.out 0) | ((with_reducible refine gate_callee (f := 34) rfl ?_); refine goesL_ (some 5) rfl rfl Try.func34 (by kernel_rfl) rfl #[.slice A0_0 l0_0.length c0_0] rfl (by (try simp only [List.map_toArray, List.map_cons, List.map_nil]); first | done | rfl | (simp only [List.length_drop, List.length_take]; rfl)) ?_; (with_reducible refine (impl_size_impl_QueryStep.calls _ _ l0_0 t234 _ ?side1 ?side2 A2.out).mono ?_); (case side1 => repeat (first | exact (Kd.C_below HR0_0.out HB.out) | (with_reducible refine Kd.C_alloc ?_ _) | (with_reducible refine Kd.C_drewN ?_ _) | (with_reducible refine Kd.C_drew ?_))); (case side2 => exact HC0_0.out); rintro e w' ⟨rfl, ⟨nd, rfl⟩⟩; refine ⟨_, rfl, ?_⟩))
 go_ret
 exact ⟨by first | rfl | (simp [errW_none, errW_some] <;> rfl) | (simp [*, errW_none, errW_some] <;> rfl), by repeat (first | (with_reducible first | exact HB.out | apply pA | apply pN | apply pD | refine pS ?_ GE233.out) | exact HB.out)⟩
end Go.Proofs.Yteeplponconnjaa.P
namespace Go.Proofs.Yteeplponconnjaa.P
open Go.RowKit Go.Proofs.YteeplponconnjaaW.PrintWords Go.Proofs.YteeplponconnjaaW.PrintLast Go.Proofs.YteeplponconnjaaW.PrintMore
attribute [local go_sem] max2_int min2_int max_two min_two max_three min_three max_four min_four
set_option linter.unusedVariables false
set_option linter.unusedSimpArgs false
def impl_isCall.f (a0 : Int) : Option (Bool) := if a0 = 40 then (some true) else (some (a0 == 91))
set_option maxHeartbeats 8000000 in
set_option maxRecDepth 100000 in
theorem impl_isCall.calls (a0 : Int) (r : Bool) (w : World) (h : impl_isCall.f a0 = some r) :
  Calls Try.prog 41 #[.int .u8 a0] w fun e w' => e = .returned (.bool r) ∧ Drawn0 w w' := by
 have H : (if a0 = 40 then (some true) else (some (a0 == 91))) = some r := h
 clear h
 by_cases c2 : a0 = 40
 rotate_left
 ·rw [if_neg c2] at H
  have c2b0 : (a0 == 40) = false := beq_eq_false_iff_ne.mpr c2
  have c2b1 : (a0 != 40) = true := bne_iff_ne.mpr c2
  obtain rfl := Option.some.inj H
  go_enter Try.func41, Try.ntmps41
  go_wp2
  go_ret
  exact ⟨by first | rfl | (simp; done) | (simp [*]; done), by repeat (first | exact Drawn0.refl _ | apply Drawn0.step)⟩
 rw [if_pos c2] at H
 have c2b0 : (a0 == 40) = true := beq_iff_eq.mpr c2
 have c2b1 : (a0 != 40) = false := bne_eq_false_iff_eq.mpr c2
 clear c2
 obtain rfl := Option.some.inj H
 go_enter Try.func41, Try.ntmps41
 go_wp2
 go_ret
 exact ⟨by first | rfl | (simp; done) | (simp [*]; done), by repeat (first | exact Drawn0.refl _ | apply Drawn0.step)⟩
end Go.Proofs.Yteeplponconnjaa.P
namespace Go.Proofs.Yteeplponconnjaa.P
open Go.RowKit Go.Proofs.YteeplponconnjaaW.PrintWords Go.Proofs.YteeplponconnjaaW.PrintLast Go.Proofs.YteeplponconnjaaW.PrintMore
attribute [local go_sem] max2_int min2_int max_two min_two max_three min_three max_four min_four
set_option linter.unusedVariables false
set_option linter.unusedSimpArgs false
def impl_isInner.f (a0 : Int) : Option (Bool) := if a0 = 97 then (some true) else (some (a0 == 98))
set_option maxHeartbeats 8000000 in
set_option maxRecDepth 100000 in
theorem impl_isInner.calls (a0 : Int) (r : Bool) (w : World) (h : impl_isInner.f a0 = some r) :
  Calls Try.prog 64 #[.int .u8 a0] w fun e w' => e = .returned (.bool r) ∧ Drawn0 w w' := by
 have H : (if a0 = 97 then (some true) else (some (a0 == 98))) = some r := h
 clear h
 by_cases c2 : a0 = 97
 rotate_left
 ·rw [if_neg c2] at H
  have c2b0 : (a0 == 97) = false := beq_eq_false_iff_ne.mpr c2
  have c2b1 : (a0 != 97) = true := bne_iff_ne.mpr c2
  obtain rfl := Option.some.inj H
  go_enter Try.func64, Try.ntmps64
  go_wp2
  go_ret
  exact ⟨by first | rfl | (simp; done) | (simp [*]; done), by repeat (first | exact Drawn0.refl _ | apply Drawn0.step)⟩
 rw [if_pos c2] at H
 have c2b0 : (a0 == 97) = true := beq_iff_eq.mpr c2
 have c2b1 : (a0 != 97) = false := bne_eq_false_iff_eq.mpr c2
 clear c2
 obtain rfl := Option.some.inj H
 go_enter Try.func64, Try.ntmps64
 go_wp2
 go_ret
 exact ⟨by first | rfl | (simp; done) | (simp [*]; done), by repeat (first | exact Drawn0.refl _ | apply Drawn0.step)⟩
end Go.Proofs.Yteeplponconnjaa.P
namespace Go.Proofs.Yteeplponconnjaa.P
open Go.RowKit Go.Proofs.YteeplponconnjaaW.PrintWords Go.Proofs.YteeplponconnjaaW.PrintLast Go.Proofs.YteeplponconnjaaW.PrintMore
attribute [local go_sem] max2_int min2_int max_two min_two max_three min_three max_four min_four
set_option linter.unusedVariables false
set_option linter.unusedSimpArgs false
def impl_passes.f (a0 : ByteArray) (a1 : Int) : Option (Bool) := if a0.toList = ([42] : List UInt8) then ((impl_isCall.f a1).bind fun t235 => (some t235)) else (if a0.toList = ([46] : List UInt8) then ((impl_isInner.f a1).bind fun t236 => (some t236)) else (if 0 < (a0.size : Int) then (some ((bt a0 0) == a1)) else (none)))
set_option maxHeartbeats 8000000 in
set_option maxRecDepth 100000 in
theorem impl_passes.calls (a0 : ByteArray) (a1 : Int) (r : Bool) (w : World) (h : impl_passes.f a0 a1 = some r) :
  Calls Try.prog 57 #[.string a0, .int .u8 a1] w fun e w' => e = .returned (.bool r) ∧ Drawn0 w w' := by
 have H : (if a0.toList = ([42] : List UInt8) then ((impl_isCall.f a1).bind fun t235 => (some t235)) else (if a0.toList = ([46] : List UInt8) then ((impl_isInner.f a1).bind fun t236 => (some t236)) else (if 0 < (a0.size : Int) then (some ((bt a0 0) == a1)) else (none)))) = some r := h
 clear h
 by_cases c3 : a0.toList = ([42] : List UInt8)
 ·rw [if_pos c3] at H
  have c3b0 : (a0.toList == ([42] : List UInt8)) = true := beq_iff_eq.mpr c3
  have c3b1 : (a0.toList != ([42] : List UInt8)) = false := bne_eq_false_iff_eq.mpr c3
  clear c3
  replace H := Option.bind_eq_some_iff.mp H
  obtain ⟨t235, A40, H⟩ := H
  replace H : (some t235) = some r := H
  have A4 := AZ.mk A40
  clear A40
  obtain rfl := Option.some.inj H
  go_enter Try.func57, Try.ntmps57
  go_wp2_with (first | ((with_reducible refine gate_callee (f := 41) rfl ?_); refine goesL_ (some 9) rfl rfl Try.func41 (by kernel_rfl) rfl #[.int .u8 a1] rfl (by (try simp only [List.map_toArray, List.map_cons, List.map_nil]); first | done | rfl | (simp only [List.length_drop, List.length_take]; rfl)) ?_; (with_reducible refine (impl_isCall.calls a1 t235 _ A4.out).mono ?_); rintro e w' ⟨rfl, ⟨nd, rfl⟩⟩; refine ⟨_, rfl, ?_⟩))
  go_ret
  exact ⟨by first | rfl | (simp; done) | (simp [*]; done), by repeat (first | exact Drawn0.refl _ | apply Drawn0.step)⟩
 rw [if_neg c3] at H
 have c3b0 : (a0.toList == ([42] : List UInt8)) = false := beq_eq_false_iff_ne.mpr c3
 have c3b1 : (a0.toList != ([42] : List UInt8)) = true := bne_iff_ne.mpr c3
 by_cases c5 : a0.toList = ([46] : List UInt8)
 ·rw [if_pos c5] at H
  have c5b0 : (a0.toList == ([46] : List UInt8)) = true := beq_iff_eq.mpr c5
  have c5b1 : (a0.toList != ([46] : List UInt8)) = false := bne_eq_false_iff_eq.mpr c5
  clear c5
  replace H := Option.bind_eq_some_iff.mp H
  obtain ⟨t236, A60, H⟩ := H
  replace H : (some t236) = some r := H
  have A6 := AZ.mk A60
  clear A60
  obtain rfl := Option.some.inj H
  go_enter Try.func57, Try.ntmps57
  go_wp2_with (first | ((with_reducible refine gate_callee (f := 64) rfl ?_); refine goesL_ (some 13) rfl rfl Try.func64 (by kernel_rfl) rfl #[.int .u8 a1] rfl (by (try simp only [List.map_toArray, List.map_cons, List.map_nil]); first | done | rfl | (simp only [List.length_drop, List.length_take]; rfl)) ?_; (with_reducible refine (impl_isInner.calls a1 t236 _ A6.out).mono ?_); rintro e w' ⟨rfl, ⟨nd, rfl⟩⟩; refine ⟨_, rfl, ?_⟩))
  go_ret
  exact ⟨by first | rfl | (simp; done) | (simp [*]; done), by repeat (first | exact Drawn0.refl _ | apply Drawn0.step)⟩
 rw [if_neg c5] at H
 have c5b0 : (a0.toList == ([46] : List UInt8)) = false := beq_eq_false_iff_ne.mpr c5
 have c5b1 : (a0.toList != ([46] : List UInt8)) = true := bne_iff_ne.mpr c5
 by_cases c7 : 0 < (a0.size : Int)
 rotate_left
 ·rw [if_neg c7] at H
  exact absurd H (by simp)
 rw [if_pos c7] at H
 have c7b0 : decide (0 < (a0.size : Int)) = true := decide_eq_true c7
 have c7b1 : decide (0 < a0.size) = true := decide_eq_true (by omega)
 clear c7
 obtain rfl := Option.some.inj H
 have p8 : 0 ≤ (0 : Int) := (by omega)
 have q8 : 0 < a0.size := (by have : (0 : Int) < (a0.size : Int) := oT (by first | (with_reducible assumption) | assumption); omega)
 have hx8 : ∀ h : 0 < a0.size, ((a0[0]'h).toNat : Int) = bt a0 0 := bt_at a0 0
 clear p8
 have qi8 : (0 < (a0.size : Int)) = True := eq_true (oT (by first | (with_reducible assumption) | assumption))
 replace q8 := eq_true q8
 go_enter Try.func57, Try.ntmps57
 go_wp2
 go_ret
 exact ⟨by first | rfl | (simp; done) | (simp [*]; done), by repeat (first | exact Drawn0.refl _ | apply Drawn0.step)⟩
end Go.Proofs.Yteeplponconnjaa.P
namespace Go.Proofs.Yteeplponconnjaa.P
open Go.RowKit Go.Proofs.YteeplponconnjaaW.PrintWords Go.Proofs.YteeplponconnjaaW.PrintLast Go.Proofs.YteeplponconnjaaW.PrintMore
attribute [local go_sem] max2_int min2_int max_two min_two max_three min_three max_four min_four
set_option linter.unusedVariables false
set_option linter.unusedSimpArgs false
def impl_Query_isAnswer.f (k : Nat) (l0_0 : List (S62)) (l1 : List Int) (a2 : Int) : Option (Bool) := (impl_isNode.f a2).bind fun t238 => (if t238 = true then ((impl_Query_last.f l0_0).bind fun t239 => ((slices_Contains_Lint64_int64.f k l1 t239).bind fun t240 => (if t240 = true then ((impl_Query_last.f l0_0).bind fun t241 => (if 0 ≤ t241 then (if t241 < (l0_0.length : Int) then ((impl_passes.f ((rd_T62 l0_0 t241).f1) a2).bind fun t243 => (some t243)) else (none)) else (none))) else (some false)))) else (some false))
def impl_Query_isAnswer.T1 : Bool × List (List Nat × List Nat) := (true, [([], []), ([0], [0]), ([1, 1], [1]), ([2], [2]), ([2], [2]), ([4, 2, 2], [2, 4]), ([3, 5, 5, 2], [2, 3, 5]), ([2, 6], [2, 6]), ([7, 6], [7]), ([8], [8]), ([9, 8], [8, 9]), ([8], [8]), ([11, 8, 8], [8, 11]), ([10, 12, 8], [8, 10, 12]), ([13, 8], [8, 13]), ([14, 8], [8, 14]), ([8], [8]), ([15, 16, 12, 8], [8, 15, 16]), ([8, 17], [8, 17]), ([18, 17, 0, 1, 2, 3, 4, 5, 6, 7, 8, 9, 10, 11, 12, 13, 14, 15, 16, 17, 18], [18])])
def impl_Query_isAnswer.B1 : List Nat := [0, 1, 3, 7, 7, 23, 63, 127, 255, 511, 1023, 511, 2559, 8191, 16383, 32767, 511, 131071, 262143, 524287]
theorem impl_Query_isAnswer.tab1 : rtab .any (opsOf Try.f40 1) = impl_Query_isAnswer.T1 := by kernel_rfl
theorem impl_Query_isAnswer.bits1 : waitsOk impl_Query_isAnswer.T1.2 impl_Query_isAnswer.B1 = true := by kernel_rfl
def impl_Query_isAnswer.cz0 : List Nat := [2, 3, 404]
def impl_Query_isAnswer.cz1 : List Nat := [7, 8, 9, 16, 410, 411]
def impl_Query_isAnswer.cz2 : List Nat := [13, 14, 415]
def impl_Query_isAnswer.cz3 : List Nat := [18, 19]
def impl_Query_isAnswer.cz4 : List Nat := [7, 8, 209, 210, 211, 212, 213, 214, 215, 216, 217, 18, 19]
def impl_Query_isAnswer.cz5 : List Nat := [2, 203, 204, 205, 206, 7, 8, 209, 210, 211, 212, 213, 214, 215, 216, 217, 18, 19]
set_option maxHeartbeats 8000000 in
set_option maxRecDepth 100000 in
theorem impl_Query_isAnswer.calls (k : Nat) (A0_0 : Option Addr) (c0_0 : Nat) (l0_0 : List (S62)) (A1 : Option Addr) (c1 : Nat) (l1 : List Int) (a2 : Int) (r : Bool) (w : World) (hr0_0 : Kd.C k62 w A0_0 l0_0.length l0_0) (hc0_0 : l0_0.length ≤ c0_0) (hr1 : Kd.C (Kd.int .i64) w A1 l1.length l1) (hc1 : l1.length ≤ c1) (h : impl_Query_isAnswer.f k l0_0 l1 a2 = some r) :
  Calls Try.prog 40 #[.agg #[.slice A0_0 l0_0.length c0_0], .slice A1 l1.length c1, .int .u8 a2] w fun e w' => e = .returned (.bool r) ∧ Below w.heap.size w w' := by
 have hu30 := Try.underlying30
 have HR0_0 := AZ.mk hr0_0
 have HC0_0 := AZ.mk hc0_0
 clear hr0_0 hc0_0
 have HR1 := AZ.mk hr1
 have HC1 := AZ.mk hc1
 clear hr1 hc1
 have HB := AZ.mk (Below.refl w.heap.size w)
 have H : ((impl_isNode.f a2).bind fun t238 => (if t238 = true then ((impl_Query_last.f l0_0).bind fun t239 => ((slices_Contains_Lint64_int64.f k l1 t239).bind fun t240 => (if t240 = true then ((impl_Query_last.f l0_0).bind fun t241 => (if 0 ≤ t241 then (if t241 < (l0_0.length : Int) then ((impl_passes.f ((rd_T62 l0_0 t241).f1) a2).bind fun t243 => (some t243)) else (none)) else (none))) else (some false)))) else (some false))) = some r := h
 clear h
 replace H := Option.bind_eq_some_iff.mp H
 obtain ⟨t238, A40, H⟩ := H
 replace H : (if t238 = true then ((impl_Query_last.f l0_0).bind fun t239 => ((slices_Contains_Lint64_int64.f k l1 t239).bind fun t240 => (if t240 = true then ((impl_Query_last.f l0_0).bind fun t241 => (if 0 ≤ t241 then (if t241 < (l0_0.length : Int) then ((impl_passes.f ((rd_T62 l0_0 t241).f1) a2).bind fun t243 => (some t243)) else (none)) else (none))) else (some false)))) else (some false)) = some r := H
 have A4 := AZ.mk A40
 clear A40
 by_cases c5 : t238 = true
 rotate_left
 ·replace c5 := Bool.eq_false_iff.mpr c5
  subst c5
  have H1 : (some false) = some r := by rw [if_neg (show ¬ (false = true) by decide)] at H; exact H
  clear H
  have H := H1
  clear H1
  obtain rfl := Option.some.inj H
  go_enter Try.func40, Try.ntmps40
  try go_wp2_with (first | ((with_reducible refine gate_dst (N := 3) rfl ?_); refine box_event ?hg (N := 3) ?hd (cs := #[.slice A0_0 l0_0.length c0_0]) (t := 30) ?hr ?_; (case hd => rfl); (case hg => rfl); (case hr => first | (go_simp; done) | (go_simp; rfl)); intro gb237 hg w20 hbox hb; have n0_ := AZ.mk (pT (by repeat (first | (with_reducible first | exact HB.out | apply pA | apply pN | apply pD) | exact HB.out)) hb); have n1_ := AZ.mk (hbox); have n2_ := AZ.mk ((by rw [hg]; exact (pZ (by repeat (first | (with_reducible first | exact HB.out | apply pA | apply pN | apply pD) | exact HB.out))) : w.heap.size ≤ gb237)); have n3_ := AZ.mk ((by rw [hg]; exact (pZ (by repeat (first | (with_reducible first | exact HB.out | apply pA | apply pN | apply pD) | exact HB.out))) : w.heap.size ≤ gb237)); clear HB; have HB := n0_; have BK237 := n1_; have GW237 := n2_; have GE237 := n3_; clear n0_ n1_ n2_ n3_; clear hb hbox hg))
  have n0_ := AZ.mk (bd_ BK237.out)
  have n1_ := AZ.mk (pD HB.out)
  clear BK237
  clear HB
  have BK237 := n0_
  have HB := n1_
  clear n0_ n1_
  refine start_ (n := 20) (S := fun w' => True) (ds := []) (bz 20 0) (by kernel_rfl) rfl rfl trivial (fun hHeld => ?_); refine with_tabW impl_Query_isAnswer.tab1 impl_Query_isAnswer.bits1 (fun HT_ HW_ => ?_)
  generalize w20.drew = w21 at BK237 HB hHeld ⊢
  refine pure_ (i := 0) (N := some 7) (v := ?_) (a' := ?_) (bz 20 1) rfl rfl (any_of HT_.out (by kernel_rfl)) (fun _ _ _ h => h) (Or.inl ⟨by rfl, ?_⟩) ?_ ?_
  rotate_left
  ·intro w'
   go_simp
   with_reducible rfl
  rotate_left
  ·simp only [Act.put, sA, sB, sC, i64_w, i32_w]
   rfl
  refine one_ (i := 1) (N := some 8) (bz 20 3) rfl rfl (one_of HT_.out (by kernel_rfl)) (by decide) (fun K hK => ?_)
  refine goes_ Try.func54 (by kernel_rfl) rfl #[.int .u8 a2] (by rfl) rfl rfl (by (try simp only [List.map_toArray, List.map_cons, List.map_nil]); first | done | rfl | (simp only [List.length_drop, List.length_take]; rfl)) ?_
  with_reducible refine (impl_isNode.calls a2 false _ A4.out).mono ?_
  rintro e w' ⟨rfl, ⟨nd, rfl⟩⟩
  refine ⟨_, rfl, ?_⟩
  refine hK.out _ _ trivial (fun hHeld => ?_)
  clear hK K
  refine norm_ (a' := ?_) ?_ ?_
  rotate_left
  ·show Act.put _ (some 8) _ = _
   simp only [Act.put, sA, sB, sC, i64_w, i32_w]
   rfl
  iterate 18 (first | (refine pz_ HT_ impl_Query_isAnswer.cz5 rfl rfl rfl (v := ?_) (a' := ?_) (by kernel_rfl) (fun _ _ _ h => h) (Or.inl ⟨by rfl, ?_⟩) ?_ ?_; rotate_left; (intro w'; go_simp; with_reducible rfl); rotate_left; (simp only [Act.put, sA, sB, sC, i64_w, i32_w]; rfl)) | (refine uz_ HT_ impl_Query_isAnswer.cz5 rfl rfl rfl (v := undef) (a' := ?_) (by kernel_rfl) (fun _ _ _ h => h) (Or.inr ⟨by rfl, rfl⟩) ?_ ?_; rotate_left; (simp only [Act.put, sA, sB, sC, i64_w, i32_w]; rfl)))
  refine done_ (done_of HT_.out (by kernel_rfl)) ?_
  try go_wp2
  go_ret
  exact ⟨by first | rfl | (simp [errW_none, errW_some] <;> rfl) | (simp [*, errW_none, errW_some] <;> rfl), by repeat (first | (with_reducible first | exact HB.out | apply pA | apply pN | apply pD | refine pS ?_ GE237.out) | exact HB.out)⟩
 subst c5
 have H1 : ((impl_Query_last.f l0_0).bind fun t239 => ((slices_Contains_Lint64_int64.f k l1 t239).bind fun t240 => (if t240 = true then ((impl_Query_last.f l0_0).bind fun t241 => (if 0 ≤ t241 then (if t241 < (l0_0.length : Int) then ((impl_passes.f ((rd_T62 l0_0 t241).f1) a2).bind fun t243 => (some t243)) else (none)) else (none))) else (some false)))) = some r := by rw [if_pos rfl] at H; exact H
 clear H
 have H := H1
 clear H1
 replace H := Option.bind_eq_some_iff.mp H
 obtain ⟨t239, A60, H⟩ := H
 replace H : ((slices_Contains_Lint64_int64.f k l1 t239).bind fun t240 => (if t240 = true then ((impl_Query_last.f l0_0).bind fun t241 => (if 0 ≤ t241 then (if t241 < (l0_0.length : Int) then ((impl_passes.f ((rd_T62 l0_0 t241).f1) a2).bind fun t243 => (some t243)) else (none)) else (none))) else (some false))) = some r := H
 have A6 := AZ.mk A60
 clear A60
 replace H := Option.bind_eq_some_iff.mp H
 obtain ⟨t240, A70, H⟩ := H
 replace H : (if t240 = true then ((impl_Query_last.f l0_0).bind fun t241 => (if 0 ≤ t241 then (if t241 < (l0_0.length : Int) then ((impl_passes.f ((rd_T62 l0_0 t241).f1) a2).bind fun t243 => (some t243)) else (none)) else (none))) else (some false)) = some r := H
 have A7 := AZ.mk A70
 clear A70
 by_cases c8 : t240 = true
 rotate_left
 ·replace c8 := Bool.eq_false_iff.mpr c8
  subst c8
  have H1 : (some false) = some r := by rw [if_neg (show ¬ (false = true) by decide)] at H; exact H
  clear H
  have H := H1
  clear H1
  obtain rfl := Option.some.inj H
  go_enter Try.func40, Try.ntmps40
  try go_wp2_with (first | ((with_reducible refine gate_dst (N := 3) rfl ?_); refine box_event ?hg (N := 3) ?hd (cs := #[.slice A0_0 l0_0.length c0_0]) (t := 30) ?hr ?_; (case hd => rfl); (case hg => rfl); (case hr => first | (go_simp; done) | (go_simp; rfl)); intro gb237 hg w17 hbox hb; have n0_ := AZ.mk (pT (by repeat (first | (with_reducible first | exact HB.out | apply pA | apply pN | apply pD) | exact HB.out)) hb); have n1_ := AZ.mk (hbox); have n2_ := AZ.mk ((by rw [hg]; exact (pZ (by repeat (first | (with_reducible first | exact HB.out | apply pA | apply pN | apply pD) | exact HB.out))) : w.heap.size ≤ gb237)); have n3_ := AZ.mk ((by rw [hg]; exact (pZ (by repeat (first | (with_reducible first | exact HB.out | apply pA | apply pN | apply pD) | exact HB.out))) : w.heap.size ≤ gb237)); clear HB; have HB := n0_; have BK237 := n1_; have GW237 := n2_; have GE237 := n3_; clear n0_ n1_ n2_ n3_; clear hb hbox hg))
  have n0_ := AZ.mk (bd_ BK237.out)
  have n1_ := AZ.mk (pD HB.out)
  clear BK237
  clear HB
  have BK237 := n0_
  have HB := n1_
  clear n0_ n1_
  refine start_ (n := 20) (S := fun w' => w'.cell? ⟨gb237, 0, none⟩ = some (.slice A0_0 l0_0.length c0_0)) (ds := []) (bz 20 0) (by kernel_rfl) rfl rfl ((bc BK237.out 0).trans rfl) (fun hHeld => ?_); refine with_tabW impl_Query_isAnswer.tab1 impl_Query_isAnswer.bits1 (fun HT_ HW_ => ?_)
  generalize w17.drew = w18 at BK237 HB hHeld ⊢
  refine pure_ (i := 0) (N := some 7) (v := ?_) (a' := ?_) (bz 20 1) rfl rfl (any_of HT_.out (by kernel_rfl)) (fun _ _ _ h => h) (Or.inl ⟨by rfl, ?_⟩) ?_ ?_
  rotate_left
  ·intro w'
   go_simp
   with_reducible rfl
  rotate_left
  ·simp only [Act.put, sA, sB, sC, i64_w, i32_w]
   rfl
  refine one_ (i := 1) (N := some 8) (bz 20 3) rfl rfl (one_of HT_.out (by kernel_rfl)) (by decide) (fun K hK => ?_)
  refine goes_ Try.func54 (by kernel_rfl) rfl #[.int .u8 a2] (by rfl) rfl rfl (by (try simp only [List.map_toArray, List.map_cons, List.map_nil]); first | done | rfl | (simp only [List.length_drop, List.length_take]; rfl)) ?_
  with_reducible refine (impl_isNode.calls a2 true _ A4.out).mono ?_
  rintro e w' ⟨rfl, ⟨nd, rfl⟩⟩
  refine ⟨_, rfl, ?_⟩
  refine hK.out _ _ ((bc BK237.out 0).trans rfl) (fun hHeld => ?_)
  clear hK K
  refine norm_ (a' := ?_) ?_ ?_
  rotate_left
  ·show Act.put _ (some 8) _ = _
   simp only [Act.put, sA, sB, sC, i64_w, i32_w]
   rfl
  iterate 3 (first | (refine pz_ HT_ impl_Query_isAnswer.cz0 rfl rfl rfl (v := ?_) (a' := ?_) (by kernel_rfl) (fun _ _ _ h => h) (Or.inl ⟨by rfl, ?_⟩) ?_ ?_; rotate_left; (intro w'; go_simp; with_reducible rfl); rotate_left; (simp only [Act.put, sA, sB, sC, i64_w, i32_w]; rfl)) | (refine tz_ HT_ HW_ impl_Query_isAnswer.cz0 rfl rfl rfl (v := ?_) (a' := ?_) (by kernel_rfl) (fun _ _ _ h => h) (Or.inl ⟨by rfl, ?_⟩) hHeld ?_ ?_; rotate_left; (intro w' s0; go_simp; with_reducible rfl); rotate_left; (simp only [Act.put, sA, sB, sC, i64_w, i32_w]; rfl)))
  refine one_ (i := 5) (N := some 12) (bz 20 63) rfl rfl (one_of HT_.out (by kernel_rfl)) (by decide) (fun K hK => ?_)
  refine goes_ Try.func56 (by kernel_rfl) rfl #[.agg #[.slice A0_0 l0_0.length c0_0]] (by rfl) rfl rfl (by (try simp only [List.map_toArray, List.map_cons, List.map_nil]); first | done | rfl | (simp only [List.length_drop, List.length_take]; rfl)) ?_
  with_reducible refine (impl_Query_last.calls _ _ l0_0 t239 _ ?side1 ?side2 A6.out).mono ?_
  (case side1 => repeat (first | exact (Kd.C_below HR0_0.out (by repeat (first | (with_reducible first | exact HB.out | apply pA | apply pN | apply pD | refine pS ?_ GE237.out) | exact HB.out))) | (with_reducible refine Kd.C_alloc ?_ _) | (with_reducible refine Kd.C_drewN ?_ _) | (with_reducible refine Kd.C_drew ?_)))
  (case side2 => exact HC0_0.out)
  rintro e w19 ⟨rfl, hb⟩
  refine ⟨_, rfl, ?_⟩
  have n0_ := AZ.mk (bb_ (g := gb237) (o := .cells #[.slice A0_0 l0_0.length c0_0] 30 (0, 0)) (by (with_reducible repeat (first | refine bn_ ?_ _ | refine bd_ ?_ | refine ba_ ?_ _)); exact BK237.out) hb)
  have n1_ := AZ.mk (pT (by repeat (first | (with_reducible first | exact HB.out | apply pA | apply pN | apply pD | refine pS ?_ GE237.out) | exact HB.out)) hb)
  clear BK237
  clear HB
  have BK237 := n0_
  have HB := n1_
  clear n0_ n1_
  (try clear hb)
  (try clear hb2)
  (try clear hk)
  (try clear hi)
  refine hK.out _ _ ((bc BK237.out 0).trans rfl) (fun hHeld => ?_)
  clear hK K
  refine norm_ (a' := ?_) ?_ ?_
  rotate_left
  ·show Act.put _ (some 12) _ = _
   simp only [Act.put, sA, sB, sC, i64_w, i32_w]
   rfl
  refine one_ (i := 6) (N := some 13) (bz 20 127) rfl rfl (one_of HT_.out (by kernel_rfl)) (by decide) (fun K hK => ?_)
  refine goes_ Try.func55 (by kernel_rfl) rfl #[.slice A1 l1.length c1, .int .i64 t239] (by rfl) rfl rfl (by (try simp only [List.map_toArray, List.map_cons, List.map_nil]); first | done | rfl | (simp only [List.length_drop, List.length_take]; rfl)) ?_
  with_reducible refine (slices_Contains_Lint64_int64.calls k _ _ l1 t239 false _ ?side1 ?side2 A7.out).mono ?_
  (case side1 => repeat (first | exact (Kd.C_below HR1.out HB.out) | (with_reducible refine Kd.C_alloc ?_ _) | (with_reducible refine Kd.C_drewN ?_ _) | (with_reducible refine Kd.C_drew ?_)))
  (case side2 => exact HC1.out)
  rintro e w' ⟨rfl, ⟨nd, rfl⟩⟩
  refine ⟨_, rfl, ?_⟩
  refine hK.out _ _ ((bc BK237.out 0).trans rfl) (fun hHeld => ?_)
  clear hK K
  refine norm_ (a' := ?_) ?_ ?_
  rotate_left
  ·show Act.put _ (some 13) _ = _
   simp only [Act.put, sA, sB, sC, i64_w, i32_w]
   rfl
  iterate 13 (first | (refine pz_ HT_ impl_Query_isAnswer.cz4 rfl rfl rfl (v := ?_) (a' := ?_) (by kernel_rfl) (fun _ _ _ h => h) (Or.inl ⟨by rfl, ?_⟩) ?_ ?_; rotate_left; (intro w'; go_simp; with_reducible rfl); rotate_left; (simp only [Act.put, sA, sB, sC, i64_w, i32_w]; rfl)) | (refine uz_ HT_ impl_Query_isAnswer.cz4 rfl rfl rfl (v := undef) (a' := ?_) (by kernel_rfl) (fun _ _ _ h => h) (Or.inr ⟨by rfl, rfl⟩) ?_ ?_; rotate_left; (simp only [Act.put, sA, sB, sC, i64_w, i32_w]; rfl)))
  refine done_ (done_of HT_.out (by kernel_rfl)) ?_
  try go_wp2
  go_ret
  exact ⟨by first | rfl | (simp [errW_none, errW_some] <;> rfl) | (simp [*, errW_none, errW_some] <;> rfl), by repeat (first | (with_reducible first | exact HB.out | apply pA | apply pN | apply pD | refine pS ?_ GE237.out) | exact HB.out)⟩
 subst c8
 have H1 : ((impl_Query_last.f l0_0).bind fun t241 => (if 0 ≤ t241 then (if t241 < (l0_0.length : Int) then ((impl_passes.f ((rd_T62 l0_0 t241).f1) a2).bind fun t243 => (some t243)) else (none)) else (none))) = some r := by rw [if_pos rfl] at H; exact H
 clear H
 have H := H1
 clear H1
 replace H := Option.bind_eq_some_iff.mp H
 obtain ⟨t241, A90, H⟩ := H
 replace H : (if 0 ≤ t241 then (if t241 < (l0_0.length : Int) then ((impl_passes.f ((rd_T62 l0_0 t241).f1) a2).bind fun t243 => (some t243)) else (none)) else (none)) = some r := H
 have A9 := AZ.mk A90
 clear A90
 by_cases c10 : 0 ≤ t241
 rotate_left
 ·rw [if_neg c10] at H
  exact absurd H (by simp)
 rw [if_pos c10] at H
 have c10b0 : decide (0 ≤ t241) = true := decide_eq_true c10
 clear c10
 by_cases c11 : t241 < (l0_0.length : Int)
 rotate_left
 ·rw [if_neg c11] at H
  exact absurd H (by simp)
 rw [if_pos c11] at H
 have c11b0 : decide (t241 < (l0_0.length : Int)) = true := decide_eq_true c11
 clear c11
 replace H := Option.bind_eq_some_iff.mp H
 obtain ⟨t243, A120, H⟩ := H
 replace H : (some t243) = some r := H
 have A12 := AZ.mk A120
 clear A120
 obtain rfl := Option.some.inj H
 go_enter Try.func40, Try.ntmps40
 try go_wp2_with (first | ((with_reducible refine gate_dst (N := 3) rfl ?_); refine box_event ?hg (N := 3) ?hd (cs := #[.slice A0_0 l0_0.length c0_0]) (t := 30) ?hr ?_; (case hd => rfl); (case hg => rfl); (case hr => first | (go_simp; done) | (go_simp; rfl)); intro gb237 hg w13 hbox hb; have n0_ := AZ.mk (pT (by repeat (first | (with_reducible first | exact HB.out | apply pA | apply pN | apply pD) | exact HB.out)) hb); have n1_ := AZ.mk (hbox); have n2_ := AZ.mk ((by rw [hg]; exact (pZ (by repeat (first | (with_reducible first | exact HB.out | apply pA | apply pN | apply pD) | exact HB.out))) : w.heap.size ≤ gb237)); have n3_ := AZ.mk ((by rw [hg]; exact (pZ (by repeat (first | (with_reducible first | exact HB.out | apply pA | apply pN | apply pD) | exact HB.out))) : w.heap.size ≤ gb237)); clear HB; have HB := n0_; have BK237 := n1_; have GW237 := n2_; have GE237 := n3_; clear n0_ n1_ n2_ n3_; clear hb hbox hg))
 have n0_ := AZ.mk (bd_ BK237.out)
 have n1_ := AZ.mk (pD HB.out)
 clear BK237
 clear HB
 have BK237 := n0_
 have HB := n1_
 clear n0_ n1_
 have p242 : 0 ≤ (t241 : Int) := oT (by first | (with_reducible assumption) | assumption)
 have q242 : t241 < (l0_0.length : Int) := oT (by first | (with_reducible assumption) | assumption)
 obtain ⟨ad242, e242, hx242_0, hx242_1⟩ := at_T62 HR0_0.out t241 p242 q242
 have hw242_1 := hx242_1
 have hw242_0 := hx242_0
 cases e242
 replace hx242_0 := (HB.out.cell (World.block_lt_of_cell? w _ hx242_0)).trans hx242_0
 replace hx242_1 := (HB.out.cell (World.block_lt_of_cell? w _ hx242_1)).trans hx242_1
 replace p242 := eq_true p242
 replace q242 := eq_true q242
 refine start_ (n := 20) (S := fun w' => w'.cell? ⟨gb237, 0, none⟩ = some (.slice (some ad242) l0_0.length c0_0) ∧ w'.cell? (ad242.add ((t241).toNat * 2)) = some (.bool ((rd_T62 l0_0 t241).f0)) ∧ w'.cell? ⟨(ad242.add ((t241).toNat * 2)).block, (ad242.add ((t241).toNat * 2)).off + 1, none⟩ = some (.string ((rd_T62 l0_0 t241).f1))) (ds := []) (bz 20 0) (by kernel_rfl) rfl rfl ⟨(bc BK237.out 0).trans rfl, ((HB.out.cell (World.block_lt_of_cell? w _ hw242_0)).trans hw242_0), ((HB.out.cell (World.block_lt_of_cell? w _ hw242_1)).trans hw242_1)⟩ (fun hHeld => ?_); refine with_tabW impl_Query_isAnswer.tab1 impl_Query_isAnswer.bits1 (fun HT_ HW_ => ?_)
 generalize w13.drew = w14 at BK237 HB hx242_0 hx242_1 hHeld ⊢
 refine pure_ (i := 0) (N := some 7) (v := ?_) (a' := ?_) (bz 20 1) rfl rfl (any_of HT_.out (by kernel_rfl)) (fun _ _ _ h => h) (Or.inl ⟨by rfl, ?_⟩) ?_ ?_
 rotate_left
 ·intro w'
  go_simp
  with_reducible rfl
 rotate_left
 ·simp only [Act.put, sA, sB, sC, i64_w, i32_w]
  rfl
 refine one_ (i := 1) (N := some 8) (bz 20 3) rfl rfl (one_of HT_.out (by kernel_rfl)) (by decide) (fun K hK => ?_)
 refine goes_ Try.func54 (by kernel_rfl) rfl #[.int .u8 a2] (by rfl) rfl rfl (by (try simp only [List.map_toArray, List.map_cons, List.map_nil]); first | done | rfl | (simp only [List.length_drop, List.length_take]; rfl)) ?_
 with_reducible refine (impl_isNode.calls a2 true _ A4.out).mono ?_
 rintro e w' ⟨rfl, ⟨nd, rfl⟩⟩
 refine ⟨_, rfl, ?_⟩
 refine hK.out _ _ ⟨(bc BK237.out 0).trans rfl, ((HB.out.cell (World.block_lt_of_cell? w _ hw242_0)).trans hw242_0), ((HB.out.cell (World.block_lt_of_cell? w _ hw242_1)).trans hw242_1)⟩ (fun hHeld => ?_)
 clear hK K
 refine norm_ (a' := ?_) ?_ ?_
 rotate_left
 ·show Act.put _ (some 8) _ = _
  simp only [Act.put, sA, sB, sC, i64_w, i32_w]
  rfl
 iterate 3 (first | (refine pz_ HT_ impl_Query_isAnswer.cz0 rfl rfl rfl (v := ?_) (a' := ?_) (by kernel_rfl) (fun _ _ _ h => h) (Or.inl ⟨by rfl, ?_⟩) ?_ ?_; rotate_left; (intro w'; go_simp; with_reducible rfl); rotate_left; (simp only [Act.put, sA, sB, sC, i64_w, i32_w]; rfl)) | (refine tz_ HT_ HW_ impl_Query_isAnswer.cz0 rfl rfl rfl (v := ?_) (a' := ?_) (by kernel_rfl) (fun _ _ _ h => h) (Or.inl ⟨by rfl, ?_⟩) hHeld ?_ ?_; rotate_left; (rintro w' ⟨s0, s1, s2⟩; go_simp; with_reducible rfl); rotate_left; (simp only [Act.put, sA, sB, sC, i64_w, i32_w]; rfl)))
 refine one_ (i := 5) (N := some 12) (bz 20 63) rfl rfl (one_of HT_.out (by kernel_rfl)) (by decide) (fun K hK => ?_)
 refine goes_ Try.func56 (by kernel_rfl) rfl #[.agg #[.slice (some ad242) l0_0.length c0_0]] (by rfl) rfl rfl (by (try simp only [List.map_toArray, List.map_cons, List.map_nil]); first | done | rfl | (simp only [List.length_drop, List.length_take]; rfl)) ?_
 with_reducible refine (impl_Query_last.calls _ _ l0_0 t239 _ ?side1 ?side2 A6.out).mono ?_
 (case side1 => repeat (first | exact (Kd.C_below HR0_0.out (by repeat (first | (with_reducible first | exact HB.out | apply pA | apply pN | apply pD | refine pS ?_ GE237.out) | exact HB.out))) | (with_reducible refine Kd.C_alloc ?_ _) | (with_reducible refine Kd.C_drewN ?_ _) | (with_reducible refine Kd.C_drew ?_)))
 (case side2 => exact HC0_0.out)
 rintro e w15 ⟨rfl, hb⟩
 refine ⟨_, rfl, ?_⟩
 have n0_ := AZ.mk (bb_ (g := gb237) (o := .cells #[.slice (some ad242) l0_0.length c0_0] 30 (0, 0)) (by (with_reducible repeat (first | refine bn_ ?_ _ | refine bd_ ?_ | refine ba_ ?_ _)); exact BK237.out) hb)
 have n1_ := AZ.mk (pT (by repeat (first | (with_reducible first | exact HB.out | apply pA | apply pN | apply pD | refine pS ?_ GE237.out) | exact HB.out)) hb)
 clear BK237
 clear HB
 have BK237 := n0_
 have HB := n1_
 clear n0_ n1_
 (try clear hb)
 (try clear hb2)
 (try clear hk)
 (try clear hi)
 refine hK.out _ _ ⟨(bc BK237.out 0).trans rfl, ((HB.out.cell (World.block_lt_of_cell? w _ hw242_0)).trans hw242_0), ((HB.out.cell (World.block_lt_of_cell? w _ hw242_1)).trans hw242_1)⟩ (fun hHeld => ?_)
 clear hK K
 refine norm_ (a' := ?_) ?_ ?_
 rotate_left
 ·show Act.put _ (some 12) _ = _
  simp only [Act.put, sA, sB, sC, i64_w, i32_w]
  rfl
 refine one_ (i := 6) (N := some 13) (bz 20 127) rfl rfl (one_of HT_.out (by kernel_rfl)) (by decide) (fun K hK => ?_)
 refine goes_ Try.func55 (by kernel_rfl) rfl #[.slice A1 l1.length c1, .int .i64 t239] (by rfl) rfl rfl (by (try simp only [List.map_toArray, List.map_cons, List.map_nil]); first | done | rfl | (simp only [List.length_drop, List.length_take]; rfl)) ?_
 with_reducible refine (slices_Contains_Lint64_int64.calls k _ _ l1 t239 true _ ?side1 ?side2 A7.out).mono ?_
 (case side1 => repeat (first | exact (Kd.C_below HR1.out HB.out) | (with_reducible refine Kd.C_alloc ?_ _) | (with_reducible refine Kd.C_drewN ?_ _) | (with_reducible refine Kd.C_drew ?_)))
 (case side2 => exact HC1.out)
 rintro e w' ⟨rfl, ⟨nd, rfl⟩⟩
 refine ⟨_, rfl, ?_⟩
 refine hK.out _ _ ⟨(bc BK237.out 0).trans rfl, ((HB.out.cell (World.block_lt_of_cell? w _ hw242_0)).trans hw242_0), ((HB.out.cell (World.block_lt_of_cell? w _ hw242_1)).trans hw242_1)⟩ (fun hHeld => ?_)
 clear hK K
 refine norm_ (a' := ?_) ?_ ?_
 rotate_left
 ·show Act.put _ (some 13) _ = _
  simp only [Act.put, sA, sB, sC, i64_w, i32_w]
  rfl
 iterate 6 (first | (refine pz_ HT_ impl_Query_isAnswer.cz1 rfl rfl rfl (v := ?_) (a' := ?_) (by kernel_rfl) (fun _ _ _ h => h) (Or.inl ⟨by rfl, ?_⟩) ?_ ?_; rotate_left; (intro w'; go_simp; with_reducible rfl); rotate_left; (simp only [Act.put, sA, sB, sC, i64_w, i32_w]; rfl)) | (refine tz_ HT_ HW_ impl_Query_isAnswer.cz1 rfl rfl rfl (v := ?_) (a' := ?_) (by kernel_rfl) (fun _ _ _ h => h) (Or.inl ⟨by rfl, ?_⟩) hHeld ?_ ?_; rotate_left; (rintro w' ⟨s0, s1, s2⟩; go_simp; with_reducible rfl); rotate_left; (simp only [Act.put, sA, sB, sC, i64_w, i32_w]; rfl)))
 refine one_ (i := 12) (N := some 19) (bz 20 73727) rfl rfl (one_of HT_.out (by kernel_rfl)) (by decide) (fun K hK => ?_)
 refine goes_ Try.func56 (by kernel_rfl) rfl #[.agg #[.slice (some ad242) l0_0.length c0_0]] (by rfl) rfl rfl (by (try simp only [List.map_toArray, List.map_cons, List.map_nil]); first | done | rfl | (simp only [List.length_drop, List.length_take]; rfl)) ?_
 with_reducible refine (impl_Query_last.calls _ _ l0_0 t241 _ ?side1 ?side2 A9.out).mono ?_
 (case side1 => repeat (first | exact (Kd.C_below HR0_0.out (by repeat (first | (with_reducible first | exact HB.out | apply pA | apply pN | apply pD | refine pS ?_ GE237.out) | exact HB.out))) | (with_reducible refine Kd.C_alloc ?_ _) | (with_reducible refine Kd.C_drewN ?_ _) | (with_reducible refine Kd.C_drew ?_)))
 (case side2 => exact HC0_0.out)
 rintro e w16 ⟨rfl, hb⟩
 refine ⟨_, rfl, ?_⟩
 have n0_ := AZ.mk (bb_ (g := gb237) (o := .cells #[.slice (some ad242) l0_0.length c0_0] 30 (0, 0)) (by (with_reducible repeat (first | refine bn_ ?_ _ | refine bd_ ?_ | refine ba_ ?_ _)); exact BK237.out) hb)
 have n1_ := AZ.mk (pT (by repeat (first | (with_reducible first | exact HB.out | apply pA | apply pN | apply pD | refine pS ?_ GE237.out) | exact HB.out)) hb)
 clear BK237
 clear HB
 have BK237 := n0_
 have HB := n1_
 clear n0_ n1_
 (try clear hb)
 (try clear hb2)
 (try clear hk)
 (try clear hi)
 refine hK.out _ _ ⟨(bc BK237.out 0).trans rfl, ((HB.out.cell (World.block_lt_of_cell? w _ hw242_0)).trans hw242_0), ((HB.out.cell (World.block_lt_of_cell? w _ hw242_1)).trans hw242_1)⟩ (fun hHeld => ?_)
 clear hK K
 refine norm_ (a' := ?_) ?_ ?_
 rotate_left
 ·show Act.put _ (some 19) _ = _
  simp only [Act.put, sA, sB, sC, i64_w, i32_w]
  rfl
 iterate 3 (first | (refine pz_ HT_ impl_Query_isAnswer.cz2 rfl rfl rfl (v := ?_) (a' := ?_) (by kernel_rfl) (fun _ _ _ h => h) (Or.inl ⟨by rfl, ?_⟩) ?_ ?_; rotate_left; (intro w'; go_simp; with_reducible rfl); rotate_left; (simp only [Act.put, sA, sB, sC, i64_w, i32_w]; rfl)) | (refine tz_ HT_ HW_ impl_Query_isAnswer.cz2 rfl rfl rfl (v := ?_) (a' := ?_) (by kernel_rfl) (fun _ _ _ h => h) (Or.inl ⟨by rfl, ?_⟩) hHeld ?_ ?_; rotate_left; (rintro w' ⟨s0, s1, s2⟩; go_simp; with_reducible rfl); rotate_left; (simp only [Act.put, sA, sB, sC, i64_w, i32_w]; rfl)))
 refine one_ (i := 17) (N := some 24) (bz 20 262143) rfl rfl (one_of HT_.out (by kernel_rfl)) (by decide) (fun K hK => ?_)
 refine goes_ Try.func57 (by kernel_rfl) rfl #[.string ((rd_T62 l0_0 t241).f1), .int .u8 a2] (by rfl) rfl rfl (by (try simp only [List.map_toArray, List.map_cons, List.map_nil]); first | done | rfl | (simp only [List.length_drop, List.length_take]; rfl)) ?_
 with_reducible refine (impl_passes.calls ((rd_T62 l0_0 t241).f1) a2 t243 _ A12.out).mono ?_
 rintro e w' ⟨rfl, ⟨nd, rfl⟩⟩
 refine ⟨_, rfl, ?_⟩
 refine hK.out _ _ ⟨(bc BK237.out 0).trans rfl, ((HB.out.cell (World.block_lt_of_cell? w _ hw242_0)).trans hw242_0), ((HB.out.cell (World.block_lt_of_cell? w _ hw242_1)).trans hw242_1)⟩ (fun hHeld => ?_)
 clear hK K
 refine norm_ (a' := ?_) ?_ ?_
 rotate_left
 ·show Act.put _ (some 24) _ = _
  simp only [Act.put, sA, sB, sC, i64_w, i32_w]
  rfl
 iterate 2 (first | (refine pz_ HT_ impl_Query_isAnswer.cz3 rfl rfl rfl (v := ?_) (a' := ?_) (by kernel_rfl) (fun _ _ _ h => h) (Or.inl ⟨by rfl, ?_⟩) ?_ ?_; rotate_left; (intro w'; go_simp; with_reducible rfl); rotate_left; (simp only [Act.put, sA, sB, sC, i64_w, i32_w]; rfl)))
 refine done_ (done_of HT_.out (by kernel_rfl)) ?_
 try go_wp2
 go_ret
 exact ⟨by first | rfl | (simp [errW_none, errW_some] <;> rfl) | (simp [*, errW_none, errW_some] <;> rfl), by repeat (first | (with_reducible first | exact HB.out | apply pA | apply pN | apply pD | refine pS ?_ GE237.out) | exact HB.out)⟩
end Go.Proofs.Yteeplponconnjaa.P
namespace Go.Proofs.Yteeplponconnjaa.P
open Go.RowKit Go.Proofs.YteeplponconnjaaW.PrintWords Go.Proofs.YteeplponconnjaaW.PrintLast Go.Proofs.YteeplponconnjaaW.PrintMore
attribute [local go_sem] max2_int min2_int max_two min_two max_three min_three max_four min_four
set_option linter.unusedVariables false
set_option linter.unusedSimpArgs false
mutual
def impl_Query_within.l0 : Nat → List Int → Int → List Int → List (S62) → Int → Int → List (S62) → Option (List Int)
 | 0, _, _, _, _, _, _, _ => none
 | k + 1, x1, x2, x7, x15, x16, x17, x245000 => if x17 < x16 then (if 0 ≤ x17 then (if x17 < (x15.length : Int) then (if (rd_T62 x15 x17).f0 = true then ((slices_Contains_Lint64_int64.f k x1 x17).bind fun t250 => (impl_Query_within.j1 k x1 x2 x7 x17 x17 t250 x15 x16 x17 x245000)) else (impl_Query_within.j1 k x1 x2 x7 x17 x17 false x15 x16 x17 x245000)) else (none)) else (none)) else (some x7)
def impl_Query_within.j1 : Nat → List Int → Int → List Int → Int → Int → Bool → List (S62) → Int → Int → List (S62) → Option (List Int)
 | 0, _, _, _, _, _, _, _, _, _, _ => none
 | k + 1, x1, x2, x7, x8, x10, x11, x15, x16, x17, x245000 => if x8 > 0 then ((slices_Contains_Lint64_int64.f k x1 (wrap64 (x10 - 1))).bind fun t251 => (if t251 = true then (if 0 ≤ (wrap64 (x8 - 1)) then (if (wrap64 (x8 - 1)) < (x245000.length : Int) then ((impl_passes.f ((rd_T62 x245000 (wrap64 (x8 - 1))).f1) x2).bind fun t253 => (if x11 = true then (if x7.length < 17592186044416 then (impl_Query_within.l0 k x1 x2 (x7 ++ [x10]) x15 x16 (wrap64 (x17 + 1)) x245000) else (none)) else (if t253 = true then (if x7.length < 17592186044416 then (impl_Query_within.l0 k x1 x2 (x7 ++ [x10]) x15 x16 (wrap64 (x17 + 1)) x245000) else (none)) else (impl_Query_within.l0 k x1 x2 x7 x15 x16 (wrap64 (x17 + 1)) x245000)))) else (none)) else (none)) else (if x11 = true then (if x7.length < 17592186044416 then (impl_Query_within.l0 k x1 x2 (x7 ++ [x10]) x15 x16 (wrap64 (x17 + 1)) x245000) else (none)) else (impl_Query_within.l0 k x1 x2 x7 x15 x16 (wrap64 (x17 + 1)) x245000)))) else (if x11 = true then (if x7.length < 17592186044416 then (impl_Query_within.l0 k x1 x2 (x7 ++ [x10]) x15 x16 (wrap64 (x17 + 1)) x245000) else (none)) else (impl_Query_within.l0 k x1 x2 x7 x15 x16 (wrap64 (x17 + 1)) x245000))
end
def impl_Query_within.f (k : Nat) (l0_0 : List (S62)) (l1 : List Int) (a2 : Int) : Option (List Int) := impl_Query_within.l0 k l1 a2 (([] : List Int)) l0_0 (l0_0.length : Int) 0 l0_0
set_option maxHeartbeats 8000000 in
set_option maxRecDepth 100000 in
theorem impl_Query_within.calls (k : Nat) (A0_0 : Option Addr) (c0_0 : Nat) (l0_0 : List (S62)) (A1 : Option Addr) (c1 : Nat) (l1 : List Int) (a2 : Int) (r : List Int) (w : World) (hr0_0 : Kd.C k62 w A0_0 l0_0.length l0_0) (hc0_0 : l0_0.length ≤ c0_0) (hr1 : Kd.C (Kd.int .i64) w A1 l1.length l1) (hc1 : l1.length ≤ c1) (h : impl_Query_within.f k l0_0 l1 a2 = some r) :
  Calls Try.prog 42 #[.agg #[.slice A0_0 l0_0.length c0_0], .slice A1 l1.length c1, .int .u8 a2] w fun e w' => ∃ v0_ : Value, e = .returned (v0_) ∧ Kd.R (Kd.int .i64) 2 w' w.heap.size (fun _ => True) v0_ r ∧ Below w.heap.size w w' := by
 have hu30 := Try.underlying30
 have hu62 := Try.underlying62
 have HR0_0 := AZ.mk hr0_0
 have HC0_0 := AZ.mk hc0_0
 clear hr0_0 hc0_0
 have HR1 := AZ.mk hr1
 have HC1 := AZ.mk hc1
 clear hr1 hc1
 have HB := AZ.mk (Below.refl w.heap.size w)
 have H : (impl_Query_within.l0 k l1 a2 (([] : List Int)) l0_0 (l0_0.length : Int) 0 l0_0) = some r := h
 clear h
 obtain ⟨y245, hy245⟩ : ∃ y_ : List Int, y_ = (([] : List Int)) := ⟨_, rfl⟩
 replace H : (impl_Query_within.l0 k l1 a2 y245 l0_0 (l0_0.length : Int) 0 l0_0) = some r := by first | (rw [hy245]; with_reducible exact H) | (have H2_ := (Option.bind_some _ _).symm.trans H; rw [hy245]; with_reducible exact H2_) | (have H2_ := (Option.bind_some _ _).symm.trans H; with_reducible exact H2_) | with_reducible exact H | (rw [hy245]; exact H) | exact H
 have Ny245 := AZ.mk hy245
 clear hy245
 have H' := AZ.mk H
 clear H
 go_enter Try.func42, Try.ntmps42
 go_wp2_with (first | ((with_reducible refine gate_dst (N := 3) rfl ?_); refine box_event ?hg (N := 3) ?hd (cs := #[.slice A0_0 l0_0.length c0_0]) (t := 30) ?hr ?_; (case hd => rfl); (case hg => rfl); (case hr => first | (go_simp; done) | (go_simp; rfl)); intro gb244 hg w4 hbox hb; have n0_ := AZ.mk (pT (by repeat (first | (with_reducible first | exact HB.out | apply pA | apply pN | apply pD) | exact HB.out)) hb); have n1_ := AZ.mk (hbox); have n2_ := AZ.mk ((by rw [hg]; exact (pZ (by repeat (first | (with_reducible first | exact HB.out | apply pA | apply pN | apply pD) | exact HB.out))) : w.heap.size ≤ gb244)); have n3_ := AZ.mk ((by rw [hg]; exact (pZ (by repeat (first | (with_reducible first | exact HB.out | apply pA | apply pN | apply pD) | exact HB.out))) : w.heap.size ≤ gb244)); clear HB; have HB := n0_; have BK244 := n1_; have GW244 := n2_; have GE244 := n3_; clear n0_ n1_ n2_ n3_; clear hb hbox hg) | ((with_reducible refine gate_dst (N := 13) rfl ?_); refine Kd.R_lit (Kd.int .i64) _ 2 ?hg (N := 13) ?hd (xs := ([] : List Int)) (inner := []) (ok := fun _ => True) (okp := fun _ => True) ?hr ?hp (fun _ hk => hk) trivial (Below.refl _ _) (Nat.le_refl _) (by simp) ?_; (case hd => rfl); (case hg => rfl); (case hr => first | (go_simp; done) | (go_simp; rfl)); (case hp => exact (Reps.none _ _)); intro v246 w5 ho6 hb hg_ hnew_; clear hg_ hnew_; (first | rw [← Ny245.out] at ho6 | (simp only [Int.reduceToNat] at ho6; rw [← Ny245.out] at ho6)); have n0_ := AZ.mk (Kd.R_lower ho6 (pZ (by repeat (first | (with_reducible first | exact HB.out | apply pA | apply pN | apply pD | refine pS ?_ GE244.out) | exact HB.out)))); have n1_ := AZ.mk (bb_ (g := gb244) (o := .cells #[.slice A0_0 l0_0.length c0_0] 30 (0, 0)) (by (with_reducible repeat (first | refine bn_ ?_ _ | refine bd_ ?_ | refine ba_ ?_ _)); exact BK244.out) hb); have n2_ := AZ.mk (pT (by repeat (first | (with_reducible first | exact HB.out | apply pA | apply pN | apply pD | refine pS ?_ GE244.out) | exact HB.out)) hb); clear BK244; clear HB; have HO247 := n0_; have BK244 := n1_; have HB := n2_; clear n0_ n1_ n2_; clear hb ho6; have hcz7_0 : w5.cell? ⟨gb244, 0, none⟩ = some (.slice A0_0 l0_0.length c0_0) := (bc BK244.out 0).trans rfl; have hfz7_0 := bf BK244.out 0))
 go_loopg [7, 17] k (fun kq v7 v17 w' => ∃ (x7_1 : List Int) (x17_1 : Int), v17 = .int .i64 x17_1 ∧ AZ (impl_Query_within.l0 kq l1 a2 x7_1 l0_0 (l0_0.length : Int) x17_1 l0_0 = some r) ∧ AZ (kq ≤ k) ∧ AZ (Kd.R (Kd.int .i64) 2 w' w.heap.size (fun _ => True) v7 x7_1) ∧ AZ (w'.heap[gb244]? = some (.cells #[(.slice A0_0 l0_0.length c0_0)] 30 (0, 0))) ∧ AZ (Below w.heap.size w w'))
 case atStart => exact ⟨(y245), (0), (by first | rfl | (simp; done) | (simp [*]; done)), H', ⟨Nat.le_refl _⟩, ⟨by (with_reducible repeat (first | apply Kd.R_alloc | apply Kd.R_drewN | apply Kd.R_drew)); exact HO247.out⟩, ⟨by (with_reducible repeat (first | refine bn_ ?_ _ | refine bd_ ?_ | refine ba_ ?_ _)); exact BK244.out⟩, ⟨by repeat (first | (with_reducible first | exact HB.out | apply pA | apply pN | apply pD | refine pS ?_ GE244.out) | exact HB.out)⟩⟩
 case round =>
  clear H'
  try clear c1
  try clear p2
  try clear c4
  try clear hcz7_0
  try clear hfz7_0
  obtain ⟨x7_1, x17_1, rfl, HA, HK1, HO_7, BK244, HB⟩ := hrel
  cases gk with
  | zero => exact absurd HA.out (by simp [impl_Query_within.l0])
  | succ k1 =>
   have H := HA.out
   clear HA
   simp only [impl_Query_within.l0] at H
   by_cases c8 : x17_1 < (l0_0.length : Int)
   rotate_left
   ·rw [if_neg c8] at H
    have c8b0 : decide (x17_1 < (l0_0.length : Int)) = false := decide_eq_false c8
    clear c8
    obtain rfl := Option.some.inj H
    go_wp2
    go_ret
    exact ⟨_, by first | rfl | (simp [errW_none, errW_some] <;> rfl) | (simp [*, errW_none, errW_some] <;> rfl), by (with_reducible repeat (first | apply Kd.R_alloc | apply Kd.R_drewN | apply Kd.R_drew)); exact HO_7.out, by repeat (first | (with_reducible first | exact HB.out | apply pA | apply pN | apply pD | refine pS ?_ GE244.out) | exact HB.out)⟩
   rw [if_pos c8] at H
   have c8b0 : decide (x17_1 < (l0_0.length : Int)) = true := decide_eq_true c8
   clear c8
   by_cases c9 : 0 ≤ x17_1
   rotate_left
   ·rw [if_neg c9] at H
    exact absurd H (by simp)
   rw [if_pos c9] at H
   have c9b0 : decide (0 ≤ x17_1) = true := decide_eq_true c9
   clear c9
   by_cases c10 : x17_1 < (l0_0.length : Int)
   rotate_left
   ·rw [if_neg c10] at H
    exact absurd H (by simp)
   rw [if_pos c10] at H
   have c10b0 : decide (x17_1 < (l0_0.length : Int)) = true := decide_eq_true c10
   clear c10
   have HC11 := AZ.mk H
   clear H
   have p248 : 0 ≤ (x17_1 : Int) := oT (by first | (with_reducible assumption) | assumption)
   have q248 : x17_1 < (l0_0.length : Int) := oT (by first | (with_reducible assumption) | assumption)
   obtain ⟨ad248, e248, hx248_0, hx248_1⟩ := at_T62 HR0_0.out x17_1 p248 q248
   cases e248
   replace hx248_0 := (HB.out.cell (World.block_lt_of_cell? w _ hx248_0)).trans hx248_0
   replace hx248_1 := (HB.out.cell (World.block_lt_of_cell? w _ hx248_1)).trans hx248_1
   replace p248 := eq_true p248
   replace q248 := eq_true q248
   go_upto_region 6 with (first | ((with_reducible refine gate_dst (N := 9) rfl ?_); refine box_event ?hg (N := 9) ?hd (cs := #[.bool false, .string (⟨#[]⟩ : ByteArray)]) (t := 62) ?hr ?_; (case hd => rfl); (case hg => rfl); (case hr => first | (go_simp; done) | (go_simp; rfl)); intro gb249 hg w12 hbox hb; have n0_ := AZ.mk (Kd.R_below (by (with_reducible repeat (first | apply Kd.R_alloc | apply Kd.R_drewN | apply Kd.R_drew)); exact HO_7.out) hb); have n1_ := AZ.mk (bb_ (g := gb244) (o := .cells #[.slice (some ad248) l0_0.length c0_0] 30 (0, 0)) (by (with_reducible repeat (first | refine bn_ ?_ _ | refine bd_ ?_ | refine ba_ ?_ _)); exact BK244.out) hb); have n2_ := AZ.mk (pT (by repeat (first | (with_reducible first | exact HB.out | apply pA | apply pN | apply pD | refine pS ?_ GE244.out) | exact HB.out)) hb); have n3_ := AZ.mk (hbox); have n4_ := AZ.mk ((by rw [hg]; exact (pZ (by repeat (first | (with_reducible first | exact HB.out | apply pA | apply pN | apply pD | refine pS ?_ GE244.out) | exact HB.out))) : w.heap.size ≤ gb249)); have n5_ := AZ.mk ((by rw [hg]; exact (pZ (by repeat (first | (with_reducible first | exact HB.out | apply pA | apply pN | apply pD | refine pS ?_ GE244.out) | exact HB.out))) : w.heap.size ≤ gb249)); have n6_ := AZ.mk ((by rw [hg]; exact Nat.ne_of_lt (blk_lt (g := gb244) (o := .cells #[.slice (some ad248) l0_0.length c0_0] 30 (0, 0)) (by (with_reducible repeat (first | refine bn_ ?_ _ | refine bd_ ?_ | refine ba_ ?_ _)); exact BK244.out)) : gb244 ≠ gb249)); have n7_ := AZ.mk ((by rw [hg]; exact Nat.ne_of_gt (blk_lt (g := gb244) (o := .cells #[.slice (some ad248) l0_0.length c0_0] 30 (0, 0)) (by (with_reducible repeat (first | refine bn_ ?_ _ | refine bd_ ?_ | refine ba_ ?_ _)); exact BK244.out)) : gb249 ≠ gb244)); clear HO_7; clear BK244; clear HB; have HO_7 := n0_; have BK244 := n1_; have HB := n2_; have BK249 := n3_; have GW249 := n4_; have GE249 := n5_; have NB244_249 := n6_; have NB249_244 := n7_; clear n0_ n1_ n2_ n3_ n4_ n5_ n6_ n7_; clear hb hbox hg; have hnb13 := NB249_244.out; have hnc13 := NB244_249.out; have hcz14_0 : w12.cell? ⟨gb249, 0, none⟩ = some (.bool false) := (bc BK249.out 0).trans rfl; have hcz14_1 : w12.cell? ⟨gb249, 1, none⟩ = some (.string (⟨#[]⟩ : ByteArray)) := (bc BK249.out 1).trans rfl; have hfz14_0 := bf BK249.out 0; have hfz14_1 := bf BK249.out 1))
   (try simp only [Act.put, sA, sB, sC])
   go_cut [11] (fun v11 wc => ∃ (kq : Nat) (x11_10 : Bool), v11 = .bool x11_10 ∧ AZ (impl_Query_within.j1 kq l1 a2 x7_1 x17_1 x17_1 x11_10 l0_0 (l0_0.length : Int) x17_1 l0_0 = some r) ∧ AZ (kq ≤ k1) ∧ AZ (Kd.R (Kd.int .i64) 2 wc w.heap.size (fun _ => True) u7 x7_1) ∧ AZ (wc.heap[gb244]? = some (.cells #[(.slice (some ad248) l0_0.length c0_0)] 30 (0, 0))) ∧ AZ (wc.heap[gb249]? = some (.cells #[.bool ((rd_T62 l0_0 x17_1).f0), .string ((rd_T62 l0_0 x17_1).f1)] 62 (0, 0))) ∧ AZ (Below w.heap.size w wc))
   case first =>
    have H := HC11.out
    clear HC11
    obtain ⟨bq15, hbq15⟩ : ∃ b_ : Bool, b_ = ((rd_T62 l0_0 x17_1).f0) := ⟨_, rfl⟩
    replace H : (if bq15 = true then ((slices_Contains_Lint64_int64.f k1 l1 x17_1).bind fun t250 => (impl_Query_within.j1 k1 l1 a2 x7_1 x17_1 x17_1 t250 l0_0 (l0_0.length : Int) x17_1 l0_0)) else (impl_Query_within.j1 k1 l1 a2 x7_1 x17_1 x17_1 false l0_0 (l0_0.length : Int) x17_1 l0_0)) = some r := by rw [← hbq15] at H; exact H
    have Nbq15 := AZ.mk hbq15
    clear hbq15
    (try rw [← Nbq15.out])
    by_cases c16 : bq15 = true
    rotate_left
    ·replace c16 := Bool.eq_false_iff.mpr c16
     subst c16
     have H1 : (impl_Query_within.j1 k1 l1 a2 x7_1 x17_1 x17_1 false l0_0 (l0_0.length : Int) x17_1 l0_0) = some r := by rw [if_neg (show ¬ (false = true) by decide)] at H; exact H
     clear H
     have H := H1
     clear H1
     have H' := AZ.mk H
     clear H
     have hnb20 := NB249_244.out
     have hnc20 := NB244_249.out
     have hcz21_0 : w12.cell? ⟨gb249, 0, none⟩ = some (.bool false) := (bc BK249.out 0).trans rfl
     have hcz21_1 : w12.cell? ⟨gb249, 1, none⟩ = some (.string (⟨#[]⟩ : ByteArray)) := (bc BK249.out 1).trans rfl
     have hfz21_0 := bf BK249.out 0
     have hfz21_1 := bf BK249.out 1
     go_wp2
     go_meet
     case rel => exact ⟨_, (false), (by first | rfl | (simp; done) | (simp [*]; done)), H', ⟨by have := HK1.out; first | omega | exact Nat.le_refl _⟩, ⟨by (with_reducible repeat (first | apply Kd.R_alloc | apply Kd.R_drewN | apply Kd.R_drew)); exact Kd.R_mono (Kd.R_far (p := ⟨gb249, 1, none⟩) (Kd.R_far (p := ⟨gb249, 0, none⟩) (Kd.R_types HO_7.out BK249.out (by decide)) (fun _ hk => hk.2) (.bool (false))) (fun _ hk => hk.2) (.string ((rd_T62 l0_0 x17_1).f1))) (fun _ hk => trivial)⟩, ⟨by (with_reducible repeat (first | refine bn_ ?_ _ | refine bd_ ?_ | refine ba_ ?_ _)); refine blk_far ?_ NB244_249.out _; (with_reducible repeat (first | refine bn_ ?_ _ | refine bd_ ?_ | refine ba_ ?_ _)); refine blk_far ?_ NB244_249.out _; (with_reducible repeat (first | refine bn_ ?_ _ | refine bd_ ?_ | refine ba_ ?_ _)); exact BK244.out⟩, ⟨by (with_reducible repeat (first | refine bn_ ?_ _ | refine bd_ ?_ | refine ba_ ?_ _)); refine blk_put (cs := #[.bool (false), .string (⟨#[]⟩ : ByteArray)]) ?_ 1 _ (by first | rfl | (rw [← Nbq15.out]; rfl)); (with_reducible repeat (first | refine bn_ ?_ _ | refine bd_ ?_ | refine ba_ ?_ _)); refine blk_put (cs := #[.bool false, .string (⟨#[]⟩ : ByteArray)]) ?_ 0 _ rfl; (with_reducible repeat (first | refine bn_ ?_ _ | refine bd_ ?_ | refine ba_ ?_ _)); exact BK249.out⟩, ⟨by repeat (first | (with_reducible first | exact HB.out | apply pA | apply pN | apply pD | refine pS ?_ GE244.out | refine pS ?_ GE249.out) | exact HB.out)⟩⟩
    subst c16
    have H1 : ((slices_Contains_Lint64_int64.f k1 l1 x17_1).bind fun t250 => (impl_Query_within.j1 k1 l1 a2 x7_1 x17_1 x17_1 t250 l0_0 (l0_0.length : Int) x17_1 l0_0)) = some r := by rw [if_pos rfl] at H; exact H
    clear H
    have H := H1
    clear H1
    replace H := Option.bind_eq_some_iff.mp H
    obtain ⟨t250, A170, H⟩ := H
    replace H : (impl_Query_within.j1 k1 l1 a2 x7_1 x17_1 x17_1 t250 l0_0 (l0_0.length : Int) x17_1 l0_0) = some r := H
    have A17 := AZ.mk A170
    clear A170
    have H' := AZ.mk H
    clear H
    have hnb18 := NB249_244.out
    have hnc18 := NB244_249.out
    have hcz19_0 : w12.cell? ⟨gb249, 0, none⟩ = some (.bool false) := (bc BK249.out 0).trans rfl
    have hcz19_1 : w12.cell? ⟨gb249, 1, none⟩ = some (.string (⟨#[]⟩ : ByteArray)) := (bc BK249.out 1).trans rfl
    have hfz19_0 := bf BK249.out 0
    have hfz19_1 := bf BK249.out 1
    go_wp2_with (first | (go_at_call 55; (with_reducible refine (slices_Contains_Lint64_int64.calls k1 _ _ l1 x17_1 t250 _ ?side1 ?side2 A17.out).mono ?_); (case side1 => exact Kd.C_below HR1.out (by repeat (first | (with_reducible first | exact HB.out | apply pA | apply pN | apply pD | refine pS ?_ GE244.out | refine pS ?_ GE249.out) | exact HB.out))); (case side2 => exact HC1.out); rintro e w' ⟨rfl, ⟨nd, rfl⟩⟩))
    go_meet
    case rel => exact ⟨_, (t250), (by first | rfl | (simp; done) | (simp [*]; done)), H', ⟨by have := HK1.out; first | omega | exact Nat.le_refl _⟩, ⟨by (with_reducible repeat (first | apply Kd.R_alloc | apply Kd.R_drewN | apply Kd.R_drew)); exact Kd.R_mono (Kd.R_far (p := ⟨gb249, 1, none⟩) (Kd.R_far (p := ⟨gb249, 0, none⟩) (Kd.R_types HO_7.out BK249.out (by decide)) (fun _ hk => hk.2) (.bool (true))) (fun _ hk => hk.2) (.string ((rd_T62 l0_0 x17_1).f1))) (fun _ hk => trivial)⟩, ⟨by (with_reducible repeat (first | refine bn_ ?_ _ | refine bd_ ?_ | refine ba_ ?_ _)); refine blk_far ?_ NB244_249.out _; (with_reducible repeat (first | refine bn_ ?_ _ | refine bd_ ?_ | refine ba_ ?_ _)); refine blk_far ?_ NB244_249.out _; (with_reducible repeat (first | refine bn_ ?_ _ | refine bd_ ?_ | refine ba_ ?_ _)); exact BK244.out⟩, ⟨by (with_reducible repeat (first | refine bn_ ?_ _ | refine bd_ ?_ | refine ba_ ?_ _)); refine blk_put (cs := #[.bool (true), .string (⟨#[]⟩ : ByteArray)]) ?_ 1 _ (by first | rfl | (rw [← Nbq15.out]; rfl)); (with_reducible repeat (first | refine bn_ ?_ _ | refine bd_ ?_ | refine ba_ ?_ _)); refine blk_put (cs := #[.bool false, .string (⟨#[]⟩ : ByteArray)]) ?_ 0 _ rfl; (with_reducible repeat (first | refine bn_ ?_ _ | refine bd_ ?_ | refine ba_ ?_ _)); exact BK249.out⟩, ⟨by repeat (first | (with_reducible first | exact HB.out | apply pA | apply pN | apply pD | refine pS ?_ GE244.out | refine pS ?_ GE249.out) | exact HB.out)⟩⟩
   case rest =>
    clear HC11
    try clear c1
    try clear q1
    try clear c2
    try clear p2
    try clear q2
    try clear hx2
    try clear c4
    try clear c8
    try clear c8b0
    try clear c9
    try clear c9b0
    try clear c10
    try clear c10b0
    try clear c13
    try clear q15
    try clear c16
    try clear c18
    try clear c20
    try clear hcz14_0
    try clear hcz14_1
    try clear hcz19_0
    try clear hcz19_1
    try clear hcz21_0
    try clear hcz21_1
    try clear hcz7_0
    try clear hfz14_0
    try clear hfz14_1
    try clear hfz19_0
    try clear hfz19_1
    try clear hfz21_0
    try clear hfz21_1
    try clear hfz7_0
    try clear hx248_0
    try clear hx248_1
    try clear p2
    try clear p248
    try clear q248
    obtain ⟨kq, x11_10, rfl, HA, HJ10, HO_7, BK244, BK249, HB⟩ := hcut
    cases kq with
    | zero => exact absurd HA.out (by simp [impl_Query_within.j1])
    | succ kj10 =>
     have H := HA.out
     clear HA
     simp only [impl_Query_within.j1] at H
     by_cases c22 : x17_1 > 0
     rotate_left
     ·rw [if_neg c22] at H
      have c22b0 : decide (0 < x17_1) = false := decide_eq_false c22
      clear c22
      by_cases c44 : x11_10 = true
      rotate_left
      ·replace c44 := Bool.eq_false_iff.mpr c44
       subst c44
       have H1 : (impl_Query_within.l0 kj10 l1 a2 x7_1 l0_0 (l0_0.length : Int) (wrap64 (x17_1 + 1)) l0_0) = some r := by rw [if_neg (show ¬ (false = true) by decide)] at H; exact H
       clear H
       have H := H1
       clear H1
       have H' := AZ.mk H
       clear H
       go_wp2
       go_roundg kj10
       case measure => have := HK1.out; have := HJ10.out; omega
       case rel => exact ⟨(x7_1), (wrap64 (x17_1 + 1)), (by first | rfl | (simp; done) | (simp [*]; done)), H', ⟨by have := HK1.out; have := HJ10.out; omega⟩, ⟨by (with_reducible repeat (first | apply Kd.R_alloc | apply Kd.R_drewN | apply Kd.R_drew)); exact HO_7.out⟩, ⟨by (with_reducible repeat (first | refine bn_ ?_ _ | refine bd_ ?_ | refine ba_ ?_ _)); exact BK244.out⟩, ⟨by repeat (first | (with_reducible first | exact HB.out | apply pA | apply pN | apply pD | refine pS ?_ GE244.out | refine pS ?_ GE249.out) | exact HB.out)⟩⟩
      subst c44
      have H1 : (if x7_1.length < 17592186044416 then (impl_Query_within.l0 kj10 l1 a2 (x7_1 ++ [x17_1]) l0_0 (l0_0.length : Int) (wrap64 (x17_1 + 1)) l0_0) else (none)) = some r := by rw [if_pos rfl] at H; exact H
      clear H
      have H := H1
      clear H1
      by_cases c45 : x7_1.length < 17592186044416
      rotate_left
      ·rw [if_neg c45] at H
       exact absurd H (by simp)
      rw [if_pos c45] at H
      have LMc45 := AZ.mk c45
      clear c45
      obtain ⟨y263, hy263⟩ : ∃ y_ : List Int, y_ = (x7_1 ++ [x17_1]) := ⟨_, rfl⟩
      replace H : (impl_Query_within.l0 kj10 l1 a2 y263 l0_0 (l0_0.length : Int) (wrap64 (x17_1 + 1)) l0_0) = some r := by first | (rw [hy263]; with_reducible exact H) | (have H2_ := (Option.bind_some _ _).symm.trans H; rw [hy263]; with_reducible exact H2_) | (have H2_ := (Option.bind_some _ _).symm.trans H; with_reducible exact H2_) | with_reducible exact H | (rw [hy263]; exact H) | exact H
      have Ny263 := AZ.mk hy263
      clear hy263
      have H' := AZ.mk H
      clear H
      go_wp2_with (first | ((with_reducible refine gate_builtin (b := .append) (xs := #[.tmp 53, .tmp 55]) rfl ?_); at_builtin; refine Kd.R_append (Kd.int .i64) (w0 := w) w.heap.size rfl (.tmp 53) (.tmp 55) 34 2 (.int .i64 0) 8 rfl Try.underlying34 info2 rfl (by decide) (by omega) u7 x7_1 x17_1 [.int .i64 x17_1] (fun _ => True) (fun _ => False) rfl rfl ?aP (fun _ hk => hk.elim) ?aF ?aO ?aB ?aS ?aL ?_; (case aP => exact rfl); (case aB => exact (by repeat (first | (with_reducible first | exact HB.out | apply pA | apply pN | apply pD | refine pS ?_ GE244.out | refine pS ?_ GE249.out) | exact HB.out))); (case aF => exact (fun _ _ => trivial)); (case aO => exact (by (with_reducible repeat (first | apply Kd.R_alloc | apply Kd.R_drewN | apply Kd.R_drew)); exact HO_7.out)); (case aS => exact (pZ (by repeat (first | (with_reducible first | exact HB.out | apply pA | apply pN | apply pD | refine pS ?_ GE244.out | refine pS ?_ GE249.out) | exact HB.out)))); (case aL => have := LMc45.out; omega); intro v264 w46 ho hb hg hat; rw [← Ny263.out] at ho; have n0_ := AZ.mk (blk_grown (g := gb244) (o := .cells #[.slice (some ad248) l0_0.length c0_0] 30 (0, 0)) (by (with_reducible repeat (first | refine bn_ ?_ _ | refine bd_ ?_ | refine ba_ ?_ _)); exact BK244.out) hg (Kd.R_ne HO_7.out BK244.out (by decide))); have n1_ := AZ.mk (blk_grown (g := gb249) (o := .cells #[.bool ((rd_T62 l0_0 x17_1).f0), .string ((rd_T62 l0_0 x17_1).f1)] 62 (0, 0)) (by (with_reducible repeat (first | refine bn_ ?_ _ | refine bd_ ?_ | refine ba_ ?_ _)); exact BK249.out) hg (Kd.R_ne HO_7.out BK249.out (by decide))); have n2_ := AZ.mk (hb); have n3_ := AZ.mk (ho); clear BK244; clear BK249; clear HB; clear HO_7; have BK244 := n0_; have BK249 := n1_; have HB := n2_; have HO265 := n3_; clear n0_ n1_ n2_ n3_; clear ho hb hg hat))
      go_roundg kj10
      case measure => have := HK1.out; have := HJ10.out; omega
      case rel => exact ⟨(y263), (wrap64 (x17_1 + 1)), (by first | rfl | (simp; done) | (simp [*]; done)), H', ⟨by have := HK1.out; have := HJ10.out; omega⟩, ⟨by (with_reducible repeat (first | apply Kd.R_alloc | apply Kd.R_drewN | apply Kd.R_drew)); exact HO265.out⟩, ⟨by (with_reducible repeat (first | refine bn_ ?_ _ | refine bd_ ?_ | refine ba_ ?_ _)); exact BK244.out⟩, ⟨by repeat (first | (with_reducible first | exact HB.out | apply pA | apply pN | apply pD | refine pS ?_ GE244.out | refine pS ?_ GE249.out) | exact HB.out)⟩⟩
     rw [if_pos c22] at H
     have c22b0 : decide (0 < x17_1) = true := decide_eq_true c22
     clear c22
     replace H := Option.bind_eq_some_iff.mp H
     obtain ⟨t251, A230, H⟩ := H
     replace H : (if t251 = true then (if 0 ≤ (wrap64 (x17_1 - 1)) then (if (wrap64 (x17_1 - 1)) < (l0_0.length : Int) then ((impl_passes.f ((rd_T62 l0_0 (wrap64 (x17_1 - 1))).f1) a2).bind fun t253 => (if x11_10 = true then (if x7_1.length < 17592186044416 then (impl_Query_within.l0 kj10 l1 a2 (x7_1 ++ [x17_1]) l0_0 (l0_0.length : Int) (wrap64 (x17_1 + 1)) l0_0) else (none)) else (if t253 = true then (if x7_1.length < 17592186044416 then (impl_Query_within.l0 kj10 l1 a2 (x7_1 ++ [x17_1]) l0_0 (l0_0.length : Int) (wrap64 (x17_1 + 1)) l0_0) else (none)) else (impl_Query_within.l0 kj10 l1 a2 x7_1 l0_0 (l0_0.length : Int) (wrap64 (x17_1 + 1)) l0_0)))) else (none)) else (none)) else (if x11_10 = true then (if x7_1.length < 17592186044416 then (impl_Query_within.l0 kj10 l1 a2 (x7_1 ++ [x17_1]) l0_0 (l0_0.length : Int) (wrap64 (x17_1 + 1)) l0_0) else (none)) else (impl_Query_within.l0 kj10 l1 a2 x7_1 l0_0 (l0_0.length : Int) (wrap64 (x17_1 + 1)) l0_0))) = some r := H
     have A23 := AZ.mk A230
     clear A230
     by_cases c24 : t251 = true
     rotate_left
     ·replace c24 := Bool.eq_false_iff.mpr c24
      subst c24
      have H1 : (if x11_10 = true then (if x7_1.length < 17592186044416 then (impl_Query_within.l0 kj10 l1 a2 (x7_1 ++ [x17_1]) l0_0 (l0_0.length : Int) (wrap64 (x17_1 + 1)) l0_0) else (none)) else (impl_Query_within.l0 kj10 l1 a2 x7_1 l0_0 (l0_0.length : Int) (wrap64 (x17_1 + 1)) l0_0)) = some r := by rw [if_neg (show ¬ (false = true) by decide)] at H; exact H
      clear H
      have H := H1
      clear H1
      by_cases c41 : x11_10 = true
      rotate_left
      ·replace c41 := Bool.eq_false_iff.mpr c41
       subst c41
       have H1 : (impl_Query_within.l0 kj10 l1 a2 x7_1 l0_0 (l0_0.length : Int) (wrap64 (x17_1 + 1)) l0_0) = some r := by rw [if_neg (show ¬ (false = true) by decide)] at H; exact H
       clear H
       have H := H1
       clear H1
       have H' := AZ.mk H
       clear H
       go_wp2_with (first | (go_at_call 55; (with_reducible refine (slices_Contains_Lint64_int64.calls kj10 _ _ l1 (wrap64 (x17_1 - 1)) false _ ?side1 ?side2 A23.out).mono ?_); (case side1 => repeat (first | exact (Kd.C_below HR1.out HB.out) | (with_reducible refine Kd.C_alloc ?_ _) | (with_reducible refine Kd.C_drewN ?_ _) | (with_reducible refine Kd.C_drew ?_))); (case side2 => exact HC1.out); rintro e w' ⟨rfl, ⟨nd, rfl⟩⟩))
       go_roundg kj10
       case measure => have := HK1.out; have := HJ10.out; omega
       case rel => exact ⟨(x7_1), (wrap64 (x17_1 + 1)), (by first | rfl | (simp; done) | (simp [*]; done)), H', ⟨by have := HK1.out; have := HJ10.out; omega⟩, ⟨by (with_reducible repeat (first | apply Kd.R_alloc | apply Kd.R_drewN | apply Kd.R_drew)); exact HO_7.out⟩, ⟨by (with_reducible repeat (first | refine bn_ ?_ _ | refine bd_ ?_ | refine ba_ ?_ _)); exact BK244.out⟩, ⟨by repeat (first | (with_reducible first | exact HB.out | apply pA | apply pN | apply pD | refine pS ?_ GE244.out | refine pS ?_ GE249.out) | exact HB.out)⟩⟩
      subst c41
      have H1 : (if x7_1.length < 17592186044416 then (impl_Query_within.l0 kj10 l1 a2 (x7_1 ++ [x17_1]) l0_0 (l0_0.length : Int) (wrap64 (x17_1 + 1)) l0_0) else (none)) = some r := by rw [if_pos rfl] at H; exact H
      clear H
      have H := H1
      clear H1
      by_cases c42 : x7_1.length < 17592186044416
      rotate_left
      ·rw [if_neg c42] at H
       exact absurd H (by simp)
      rw [if_pos c42] at H
      have LMc42 := AZ.mk c42
      clear c42
      obtain ⟨y260, hy260⟩ : ∃ y_ : List Int, y_ = (x7_1 ++ [x17_1]) := ⟨_, rfl⟩
      replace H : (impl_Query_within.l0 kj10 l1 a2 y260 l0_0 (l0_0.length : Int) (wrap64 (x17_1 + 1)) l0_0) = some r := by first | (rw [hy260]; with_reducible exact H) | (have H2_ := (Option.bind_some _ _).symm.trans H; rw [hy260]; with_reducible exact H2_) | (have H2_ := (Option.bind_some _ _).symm.trans H; with_reducible exact H2_) | with_reducible exact H | (rw [hy260]; exact H) | exact H
      have Ny260 := AZ.mk hy260
      clear hy260
      have H' := AZ.mk H
      clear H
      go_wp2_with (first | (go_at_call 55; (with_reducible refine (slices_Contains_Lint64_int64.calls kj10 _ _ l1 (wrap64 (x17_1 - 1)) false _ ?side1 ?side2 A23.out).mono ?_); (case side1 => repeat (first | exact (Kd.C_below HR1.out HB.out) | (with_reducible refine Kd.C_alloc ?_ _) | (with_reducible refine Kd.C_drewN ?_ _) | (with_reducible refine Kd.C_drew ?_))); (case side2 => exact HC1.out); rintro e w' ⟨rfl, ⟨nd, rfl⟩⟩) | ((with_reducible refine gate_builtin (b := .append) (xs := #[.tmp 53, .tmp 55]) rfl ?_); at_builtin; refine Kd.R_append (Kd.int .i64) (w0 := w) w.heap.size rfl (.tmp 53) (.tmp 55) 34 2 (.int .i64 0) 8 rfl Try.underlying34 info2 rfl (by decide) (by omega) u7 x7_1 x17_1 [.int .i64 x17_1] (fun _ => True) (fun _ => False) rfl rfl ?aP (fun _ hk => hk.elim) ?aF ?aO ?aB ?aS ?aL ?_; (case aP => exact rfl); (case aB => exact (by repeat (first | (with_reducible first | exact HB.out | apply pA | apply pN | apply pD | refine pS ?_ GE244.out | refine pS ?_ GE249.out) | exact HB.out))); (case aF => exact (fun _ _ => trivial)); (case aO => exact (by (with_reducible repeat (first | apply Kd.R_alloc | apply Kd.R_drewN | apply Kd.R_drew)); exact HO_7.out)); (case aS => exact (pZ (by repeat (first | (with_reducible first | exact HB.out | apply pA | apply pN | apply pD | refine pS ?_ GE244.out | refine pS ?_ GE249.out) | exact HB.out)))); (case aL => have := LMc42.out; omega); intro v261 w43 ho hb hg hat; rw [← Ny260.out] at ho; have n0_ := AZ.mk (blk_grown (g := gb244) (o := .cells #[.slice (some ad248) l0_0.length c0_0] 30 (0, 0)) (by (with_reducible repeat (first | refine bn_ ?_ _ | refine bd_ ?_ | refine ba_ ?_ _)); exact BK244.out) hg (Kd.R_ne HO_7.out BK244.out (by decide))); have n1_ := AZ.mk (blk_grown (g := gb249) (o := .cells #[.bool ((rd_T62 l0_0 x17_1).f0), .string ((rd_T62 l0_0 x17_1).f1)] 62 (0, 0)) (by (with_reducible repeat (first | refine bn_ ?_ _ | refine bd_ ?_ | refine ba_ ?_ _)); exact BK249.out) hg (Kd.R_ne HO_7.out BK249.out (by decide))); have n2_ := AZ.mk (hb); have n3_ := AZ.mk (ho); clear BK244; clear BK249; clear HB; clear HO_7; have BK244 := n0_; have BK249 := n1_; have HB := n2_; have HO262 := n3_; clear n0_ n1_ n2_ n3_; clear ho hb hg hat))
      go_roundg kj10
      case measure => have := HK1.out; have := HJ10.out; omega
      case rel => exact ⟨(y260), (wrap64 (x17_1 + 1)), (by first | rfl | (simp; done) | (simp [*]; done)), H', ⟨by have := HK1.out; have := HJ10.out; omega⟩, ⟨by (with_reducible repeat (first | apply Kd.R_alloc | apply Kd.R_drewN | apply Kd.R_drew)); exact HO262.out⟩, ⟨by (with_reducible repeat (first | refine bn_ ?_ _ | refine bd_ ?_ | refine ba_ ?_ _)); exact BK244.out⟩, ⟨by repeat (first | (with_reducible first | exact HB.out | apply pA | apply pN | apply pD | refine pS ?_ GE244.out | refine pS ?_ GE249.out) | exact HB.out)⟩⟩
     subst c24
     have H1 : (if 0 ≤ (wrap64 (x17_1 - 1)) then (if (wrap64 (x17_1 - 1)) < (l0_0.length : Int) then ((impl_passes.f ((rd_T62 l0_0 (wrap64 (x17_1 - 1))).f1) a2).bind fun t253 => (if x11_10 = true then (if x7_1.length < 17592186044416 then (impl_Query_within.l0 kj10 l1 a2 (x7_1 ++ [x17_1]) l0_0 (l0_0.length : Int) (wrap64 (x17_1 + 1)) l0_0) else (none)) else (if t253 = true then (if x7_1.length < 17592186044416 then (impl_Query_within.l0 kj10 l1 a2 (x7_1 ++ [x17_1]) l0_0 (l0_0.length : Int) (wrap64 (x17_1 + 1)) l0_0) else (none)) else (impl_Query_within.l0 kj10 l1 a2 x7_1 l0_0 (l0_0.length : Int) (wrap64 (x17_1 + 1)) l0_0)))) else (none)) else (none)) = some r := by rw [if_pos rfl] at H; exact H
     clear H
     have H := H1
     clear H1
     obtain ⟨ji25, hji25⟩ : ∃ j_ : Int, (wrap64 (x17_1 - 1)) = j_ := ⟨_, rfl⟩
     replace H : (if 0 ≤ (ji25) then (if (ji25) < (l0_0.length : Int) then ((impl_passes.f ((rd_T62 l0_0 (ji25)).f1) a2).bind fun t253 => (if x11_10 = true then (if x7_1.length < 17592186044416 then (impl_Query_within.l0 kj10 l1 a2 (x7_1 ++ [x17_1]) l0_0 (l0_0.length : Int) (wrap64 (x17_1 + 1)) l0_0) else (none)) else (if t253 = true then (if x7_1.length < 17592186044416 then (impl_Query_within.l0 kj10 l1 a2 (x7_1 ++ [x17_1]) l0_0 (l0_0.length : Int) (wrap64 (x17_1 + 1)) l0_0) else (none)) else (impl_Query_within.l0 kj10 l1 a2 x7_1 l0_0 (l0_0.length : Int) (wrap64 (x17_1 + 1)) l0_0)))) else (none)) else (none)) = some r := by first | (rw [hji25] at H; exact H) | (simp only [hji25] at H ⊢; exact H)
     (try rw [hji25] at A23)
     have hji25w : (IntKind.i64.wrap (x17_1 - 1)) = ji25 := (i64_w _).trans hji25
     by_cases c26 : 0 ≤ (ji25)
     rotate_left
     ·rw [if_neg c26] at H
      exact absurd H (by simp)
     rw [if_pos c26] at H
     have c26b0 : decide (0 ≤ (ji25)) = true := decide_eq_true c26
     clear c26
     by_cases c27 : (ji25) < (l0_0.length : Int)
     rotate_left
     ·rw [if_neg c27] at H
      exact absurd H (by simp)
     rw [if_pos c27] at H
     have c27b0 : decide ((ji25) < (l0_0.length : Int)) = true := decide_eq_true c27
     clear c27
     replace H := Option.bind_eq_some_iff.mp H
     obtain ⟨t253, A280, H⟩ := H
     replace H : (if x11_10 = true then (if x7_1.length < 17592186044416 then (impl_Query_within.l0 kj10 l1 a2 (x7_1 ++ [x17_1]) l0_0 (l0_0.length : Int) (wrap64 (x17_1 + 1)) l0_0) else (none)) else (if t253 = true then (if x7_1.length < 17592186044416 then (impl_Query_within.l0 kj10 l1 a2 (x7_1 ++ [x17_1]) l0_0 (l0_0.length : Int) (wrap64 (x17_1 + 1)) l0_0) else (none)) else (impl_Query_within.l0 kj10 l1 a2 x7_1 l0_0 (l0_0.length : Int) (wrap64 (x17_1 + 1)) l0_0))) = some r := H
     have A28 := AZ.mk A280
     clear A280
     by_cases c29 : x11_10 = true
     ·subst c29
      have H1 : (if x7_1.length < 17592186044416 then (impl_Query_within.l0 kj10 l1 a2 (x7_1 ++ [x17_1]) l0_0 (l0_0.length : Int) (wrap64 (x17_1 + 1)) l0_0) else (none)) = some r := by rw [if_pos rfl] at H; exact H
      clear H
      have H := H1
      clear H1
      by_cases c30 : x7_1.length < 17592186044416
      rotate_left
      ·rw [if_neg c30] at H
       exact absurd H (by simp)
      rw [if_pos c30] at H
      have LMc30 := AZ.mk c30
      clear c30
      obtain ⟨y254, hy254⟩ : ∃ y_ : List Int, y_ = (x7_1 ++ [x17_1]) := ⟨_, rfl⟩
      replace H : (impl_Query_within.l0 kj10 l1 a2 y254 l0_0 (l0_0.length : Int) (wrap64 (x17_1 + 1)) l0_0) = some r := by first | (rw [hy254]; with_reducible exact H) | (have H2_ := (Option.bind_some _ _).symm.trans H; rw [hy254]; with_reducible exact H2_) | (have H2_ := (Option.bind_some _ _).symm.trans H; with_reducible exact H2_) | with_reducible exact H | (rw [hy254]; exact H) | exact H
      have Ny254 := AZ.mk hy254
      clear hy254
      have H' := AZ.mk H
      clear H
      go_wp2_with (first | (go_at_call 55; (with_reducible refine (slices_Contains_Lint64_int64.calls kj10 _ _ l1 ji25 true _ ?side1 ?side2 A23.out).mono ?_); (case side1 => repeat (first | exact (Kd.C_below HR1.out HB.out) | (with_reducible refine Kd.C_alloc ?_ _) | (with_reducible refine Kd.C_drewN ?_ _) | (with_reducible refine Kd.C_drew ?_))); (case side2 => exact HC1.out); rintro e w' ⟨rfl, ⟨nd, rfl⟩⟩; have hnb31 := NB244_249.out; have hnc31 := NB249_244.out; have hcz32_0 : wc.cell? ⟨gb244, 0, none⟩ = some (.slice (some ad248) l0_0.length c0_0) := (bc BK244.out 0).trans rfl; have hfz32_0 := bf BK244.out 0; have p252 : 0 ≤ ((ji25) : Int) := oT (by first | (with_reducible assumption) | assumption); have q252 : (ji25) < (l0_0.length : Int) := oT (by first | (with_reducible assumption) | assumption); obtain ⟨ad252, e252, hx252_0, hx252_1⟩ := at_T62 HR0_0.out (ji25) p252 q252; obtain rfl : ad248 = ad252 := (by injection e252); replace hx252_0 := (HB.out.cell (World.block_lt_of_cell? w _ hx252_0)).trans hx252_0; replace hx252_1 := (HB.out.cell (World.block_lt_of_cell? w _ hx252_1)).trans hx252_1; replace p252 := eq_true p252; replace q252 := eq_true q252) | (go_at_call 57; (with_reducible refine (impl_passes.calls ((rd_T62 l0_0 (ji25)).f1) a2 t253 _ A28.out).mono ?_); rintro e w' ⟨rfl, ⟨nd, rfl⟩⟩) | ((with_reducible refine gate_builtin (b := .append) (xs := #[.tmp 53, .tmp 55]) rfl ?_); at_builtin; refine Kd.R_append (Kd.int .i64) (w0 := w) w.heap.size rfl (.tmp 53) (.tmp 55) 34 2 (.int .i64 0) 8 rfl Try.underlying34 info2 rfl (by decide) (by omega) u7 x7_1 x17_1 [.int .i64 x17_1] (fun _ => True) (fun _ => False) rfl rfl ?aP (fun _ hk => hk.elim) ?aF ?aO ?aB ?aS ?aL ?_; (case aP => exact rfl); (case aB => exact (by repeat (first | (with_reducible first | exact HB.out | apply pA | apply pN | apply pD | refine pS ?_ GE244.out | refine pS ?_ GE249.out) | exact HB.out))); (case aF => exact (fun _ _ => trivial)); (case aO => exact (by (with_reducible repeat (first | apply Kd.R_alloc | apply Kd.R_drewN | apply Kd.R_drew)); exact HO_7.out)); (case aS => exact (pZ (by repeat (first | (with_reducible first | exact HB.out | apply pA | apply pN | apply pD | refine pS ?_ GE244.out | refine pS ?_ GE249.out) | exact HB.out)))); (case aL => have := LMc30.out; omega); intro v255 w33 ho hb hg hat; rw [← Ny254.out] at ho; have n0_ := AZ.mk (blk_grown (g := gb244) (o := .cells #[.slice (some ad248) l0_0.length c0_0] 30 (0, 0)) (by (with_reducible repeat (first | refine bn_ ?_ _ | refine bd_ ?_ | refine ba_ ?_ _)); exact BK244.out) hg (Kd.R_ne HO_7.out BK244.out (by decide))); have n1_ := AZ.mk (blk_grown (g := gb249) (o := .cells #[.bool ((rd_T62 l0_0 x17_1).f0), .string ((rd_T62 l0_0 x17_1).f1)] 62 (0, 0)) (by (with_reducible repeat (first | refine bn_ ?_ _ | refine bd_ ?_ | refine ba_ ?_ _)); exact BK249.out) hg (Kd.R_ne HO_7.out BK249.out (by decide))); have n2_ := AZ.mk (hb); have n3_ := AZ.mk (ho); clear BK244; clear BK249; clear HB; clear HO_7; have BK244 := n0_; have BK249 := n1_; have HB := n2_; have HO256 := n3_; clear n0_ n1_ n2_ n3_; clear ho hb hg hat))
      go_roundg kj10
      case measure => have := HK1.out; have := HJ10.out; omega
      case rel => exact ⟨(y254), (wrap64 (x17_1 + 1)), (by first | rfl | (simp; done) | (simp [*]; done)), H', ⟨by have := HK1.out; have := HJ10.out; omega⟩, ⟨by (with_reducible repeat (first | apply Kd.R_alloc | apply Kd.R_drewN | apply Kd.R_drew)); exact HO256.out⟩, ⟨by (with_reducible repeat (first | refine bn_ ?_ _ | refine bd_ ?_ | refine ba_ ?_ _)); exact BK244.out⟩, ⟨by repeat (first | (with_reducible first | exact HB.out | apply pA | apply pN | apply pD | refine pS ?_ GE244.out | refine pS ?_ GE249.out) | exact HB.out)⟩⟩
     replace c29 := Bool.eq_false_iff.mpr c29
     subst c29
     have H1 : (if t253 = true then (if x7_1.length < 17592186044416 then (impl_Query_within.l0 kj10 l1 a2 (x7_1 ++ [x17_1]) l0_0 (l0_0.length : Int) (wrap64 (x17_1 + 1)) l0_0) else (none)) else (impl_Query_within.l0 kj10 l1 a2 x7_1 l0_0 (l0_0.length : Int) (wrap64 (x17_1 + 1)) l0_0)) = some r := by rw [if_neg (show ¬ (false = true) by decide)] at H; exact H
     clear H
     have H := H1
     clear H1
     by_cases c34 : t253 = true
     rotate_left
     ·replace c34 := Bool.eq_false_iff.mpr c34
      subst c34
      have H1 : (impl_Query_within.l0 kj10 l1 a2 x7_1 l0_0 (l0_0.length : Int) (wrap64 (x17_1 + 1)) l0_0) = some r := by rw [if_neg (show ¬ (false = true) by decide)] at H; exact H
      clear H
      have H := H1
      clear H1
      have H' := AZ.mk H
      clear H
      go_wp2_with (first | (go_at_call 55; (with_reducible refine (slices_Contains_Lint64_int64.calls kj10 _ _ l1 ji25 true _ ?side1 ?side2 A23.out).mono ?_); (case side1 => repeat (first | exact (Kd.C_below HR1.out HB.out) | (with_reducible refine Kd.C_alloc ?_ _) | (with_reducible refine Kd.C_drewN ?_ _) | (with_reducible refine Kd.C_drew ?_))); (case side2 => exact HC1.out); rintro e w' ⟨rfl, ⟨nd, rfl⟩⟩; have hnb39 := NB244_249.out; have hnc39 := NB249_244.out; have hcz40_0 : wc.cell? ⟨gb244, 0, none⟩ = some (.slice (some ad248) l0_0.length c0_0) := (bc BK244.out 0).trans rfl; have hfz40_0 := bf BK244.out 0; have p252 : 0 ≤ ((ji25) : Int) := oT (by first | (with_reducible assumption) | assumption); have q252 : (ji25) < (l0_0.length : Int) := oT (by first | (with_reducible assumption) | assumption); obtain ⟨ad252, e252, hx252_0, hx252_1⟩ := at_T62 HR0_0.out (ji25) p252 q252; obtain rfl : ad248 = ad252 := (by injection e252); replace hx252_0 := (HB.out.cell (World.block_lt_of_cell? w _ hx252_0)).trans hx252_0; replace hx252_1 := (HB.out.cell (World.block_lt_of_cell? w _ hx252_1)).trans hx252_1; replace p252 := eq_true p252; replace q252 := eq_true q252) | (go_at_call 57; (with_reducible refine (impl_passes.calls ((rd_T62 l0_0 (ji25)).f1) a2 false _ A28.out).mono ?_); rintro e w' ⟨rfl, ⟨nd, rfl⟩⟩))
      go_roundg kj10
      case measure => have := HK1.out; have := HJ10.out; omega
      case rel => exact ⟨(x7_1), (wrap64 (x17_1 + 1)), (by first | rfl | (simp; done) | (simp [*]; done)), H', ⟨by have := HK1.out; have := HJ10.out; omega⟩, ⟨by (with_reducible repeat (first | apply Kd.R_alloc | apply Kd.R_drewN | apply Kd.R_drew)); exact HO_7.out⟩, ⟨by (with_reducible repeat (first | refine bn_ ?_ _ | refine bd_ ?_ | refine ba_ ?_ _)); exact BK244.out⟩, ⟨by repeat (first | (with_reducible first | exact HB.out | apply pA | apply pN | apply pD | refine pS ?_ GE244.out | refine pS ?_ GE249.out) | exact HB.out)⟩⟩
     subst c34
     have H1 : (if x7_1.length < 17592186044416 then (impl_Query_within.l0 kj10 l1 a2 (x7_1 ++ [x17_1]) l0_0 (l0_0.length : Int) (wrap64 (x17_1 + 1)) l0_0) else (none)) = some r := by rw [if_pos rfl] at H; exact H
     clear H
     have H := H1
     clear H1
     by_cases c35 : x7_1.length < 17592186044416
     rotate_left
     ·rw [if_neg c35] at H
      exact absurd H (by simp)
     rw [if_pos c35] at H
     have LMc35 := AZ.mk c35
     clear c35
     obtain ⟨y257, hy257⟩ : ∃ y_ : List Int, y_ = (x7_1 ++ [x17_1]) := ⟨_, rfl⟩
     replace H : (impl_Query_within.l0 kj10 l1 a2 y257 l0_0 (l0_0.length : Int) (wrap64 (x17_1 + 1)) l0_0) = some r := by first | (rw [hy257]; with_reducible exact H) | (have H2_ := (Option.bind_some _ _).symm.trans H; rw [hy257]; with_reducible exact H2_) | (have H2_ := (Option.bind_some _ _).symm.trans H; with_reducible exact H2_) | with_reducible exact H | (rw [hy257]; exact H) | exact H
     have Ny257 := AZ.mk hy257
     clear hy257
     have H' := AZ.mk H
     clear H
     go_wp2_with (first | (go_at_call 55; (with_reducible refine (slices_Contains_Lint64_int64.calls kj10 _ _ l1 ji25 true _ ?side1 ?side2 A23.out).mono ?_); (case side1 => repeat (first | exact (Kd.C_below HR1.out HB.out) | (with_reducible refine Kd.C_alloc ?_ _) | (with_reducible refine Kd.C_drewN ?_ _) | (with_reducible refine Kd.C_drew ?_))); (case side2 => exact HC1.out); rintro e w' ⟨rfl, ⟨nd, rfl⟩⟩; have hnb36 := NB244_249.out; have hnc36 := NB249_244.out; have hcz37_0 : wc.cell? ⟨gb244, 0, none⟩ = some (.slice (some ad248) l0_0.length c0_0) := (bc BK244.out 0).trans rfl; have hfz37_0 := bf BK244.out 0; have p252 : 0 ≤ ((ji25) : Int) := oT (by first | (with_reducible assumption) | assumption); have q252 : (ji25) < (l0_0.length : Int) := oT (by first | (with_reducible assumption) | assumption); obtain ⟨ad252, e252, hx252_0, hx252_1⟩ := at_T62 HR0_0.out (ji25) p252 q252; obtain rfl : ad248 = ad252 := (by injection e252); replace hx252_0 := (HB.out.cell (World.block_lt_of_cell? w _ hx252_0)).trans hx252_0; replace hx252_1 := (HB.out.cell (World.block_lt_of_cell? w _ hx252_1)).trans hx252_1; replace p252 := eq_true p252; replace q252 := eq_true q252) | (go_at_call 57; (with_reducible refine (impl_passes.calls ((rd_T62 l0_0 (ji25)).f1) a2 true _ A28.out).mono ?_); rintro e w' ⟨rfl, ⟨nd, rfl⟩⟩) | ((with_reducible refine gate_builtin (b := .append) (xs := #[.tmp 53, .tmp 55]) rfl ?_); at_builtin; refine Kd.R_append (Kd.int .i64) (w0 := w) w.heap.size rfl (.tmp 53) (.tmp 55) 34 2 (.int .i64 0) 8 rfl Try.underlying34 info2 rfl (by decide) (by omega) u7 x7_1 x17_1 [.int .i64 x17_1] (fun _ => True) (fun _ => False) rfl rfl ?aP (fun _ hk => hk.elim) ?aF ?aO ?aB ?aS ?aL ?_; (case aP => exact rfl); (case aB => exact (by repeat (first | (with_reducible first | exact HB.out | apply pA | apply pN | apply pD | refine pS ?_ GE244.out | refine pS ?_ GE249.out) | exact HB.out))); (case aF => exact (fun _ _ => trivial)); (case aO => exact (by (with_reducible repeat (first | apply Kd.R_alloc | apply Kd.R_drewN | apply Kd.R_drew)); exact HO_7.out)); (case aS => exact (pZ (by repeat (first | (with_reducible first | exact HB.out | apply pA | apply pN | apply pD | refine pS ?_ GE244.out | refine pS ?_ GE249.out) | exact HB.out)))); (case aL => have := LMc35.out; omega); intro v258 w38 ho hb hg hat; rw [← Ny257.out] at ho; have n0_ := AZ.mk (blk_grown (g := gb244) (o := .cells #[.slice (some ad248) l0_0.length c0_0] 30 (0, 0)) (by (with_reducible repeat (first | refine bn_ ?_ _ | refine bd_ ?_ | refine ba_ ?_ _)); exact BK244.out) hg (Kd.R_ne HO_7.out BK244.out (by decide))); have n1_ := AZ.mk (blk_grown (g := gb249) (o := .cells #[.bool ((rd_T62 l0_0 x17_1).f0), .string ((rd_T62 l0_0 x17_1).f1)] 62 (0, 0)) (by (with_reducible repeat (first | refine bn_ ?_ _ | refine bd_ ?_ | refine ba_ ?_ _)); exact BK249.out) hg (Kd.R_ne HO_7.out BK249.out (by decide))); have n2_ := AZ.mk (hb); have n3_ := AZ.mk (ho); clear BK244; clear BK249; clear HB; clear HO_7; have BK244 := n0_; have BK249 := n1_; have HB := n2_; have HO259 := n3_; clear n0_ n1_ n2_ n3_; clear ho hb hg hat))
     go_roundg kj10
     case measure => have := HK1.out; have := HJ10.out; omega
     case rel => exact ⟨(y257), (wrap64 (x17_1 + 1)), (by first | rfl | (simp; done) | (simp [*]; done)), H', ⟨by have := HK1.out; have := HJ10.out; omega⟩, ⟨by (with_reducible repeat (first | apply Kd.R_alloc | apply Kd.R_drewN | apply Kd.R_drew)); exact HO259.out⟩, ⟨by (with_reducible repeat (first | refine bn_ ?_ _ | refine bd_ ?_ | refine ba_ ?_ _)); exact BK244.out⟩, ⟨by repeat (first | (with_reducible first | exact HB.out | apply pA | apply pN | apply pD | refine pS ?_ GE244.out | refine pS ?_ GE249.out) | exact HB.out)⟩⟩
end Go.Proofs.Yteeplponconnjaa.P
namespace Go.Proofs.Yteeplponconnjaa.P
open Go.RowKit Go.Proofs.YteeplponconnjaaW.PrintWords Go.Proofs.YteeplponconnjaaW.PrintLast Go.Proofs.YteeplponconnjaaW.PrintMore Go.Proofs.Yteeplponconnjaa.Wa
set_option linter.unusedVariables false
set_option linter.unusedSimpArgs false
def Step (kq : Nat) (wd : ByteArray) (steps : List S62) (fN : Nat → List Int) (fK : Nat → List (List Int)) (fO : Nat → List Int) (i : Nat) : Prop :=
  ∃ an : Bool, impl_Query_isAnswer.f kq steps (fN i) (bt wd (i : Int)) = some an ∧ fO (i + 1) = (if an = true then fO i ++ [(i : Int)] else fO i) ∧
    ((impl_isCall.f (bt wd (i : Int)) = some true ∧ impl_Query_within.f kq steps (fN i) (bt wd (i : Int)) = some (fN (i + 1)) ∧ fK (i + 1) = fK i ++ [fN i]) ∨
     (impl_isCall.f (bt wd (i : Int)) = some false ∧
       ((impl_isReturn.f (bt wd (i : Int)) = some true ∧ 0 < (fK i).length ∧ fN (i + 1) = (fK i).getD ((fK i).length - 1) [] ∧ fK (i + 1) = (fK i).take ((fK i).length - 1)) ∨
        (impl_isReturn.f (bt wd (i : Int)) = some true ∧ (fK i).length = 0 ∧ fN (i + 1) = fN i ∧ fK (i + 1) = fK i) ∨
        (impl_isReturn.f (bt wd (i : Int)) = some false ∧ fN (i + 1) = fN i ∧ fK (i + 1) = fK i))))
theorem inf34 : (Try.prog.info? 34).map (fun i => (i.zero, i.size, i.bytes)) = some (some (.slice none 0 0), 1, 24) := by kernel_rfl
theorem wm_ (n m : Nat) (hm : m + 1 = n) (hn : n ≤ 1048576) : wrap64 ((n : Int) - 1) = (m : Int) := by
  unfold wrap64; omega
theorem rdc {w w' : World} {p : Addr} {v : Value} (hb : Below w.heap.size w w') (h : w.cell? p = some v) : w'.cell? p = some v := (hb.cell (World.block_lt_of_cell? w _ h)).trans h
theorem wr_ (i n : Nat) (hn : n ≤ 1048576) (hi : i < n) : wrap64 ((i : Int) + 1) = ((i + 1 : Nat) : Int) := by
  have : wrap64 ((i : Int) + 1) = (i : Int) + 1 := by unfold wrap64; omega
  rw [this]; omega
def watch.T5 : Bool × List (List Nat × List Nat) := (true, [([], []), ([], []), ([0, 1], [0, 1]), ([], []), ([3], [3]), ([4], [4]), ([5], [5]), ([6], [6]), ([2, 0, 1, 2], [2]), ([7, 8, 0, 1, 2, 3, 4, 5, 6, 7, 8], [7])])
def watch.B5 : List Nat := [0, 0, 3, 0, 8, 24, 56, 120, 7, 511]
theorem watch.tab5 : rtab .any (opsOf Try.f25 5) = watch.T5 := by kernel_rfl
theorem watch.bits5 : waitsOk watch.T5.2 watch.B5 = true := by kernel_rfl
def watch.T6 : Bool × List (List Nat × List Nat) := (true, [([], []), ([0], [0]), ([1], [1]), ([2], [2]), ([], []), ([4], [4]), ([5], [5]), ([6], [6]), ([], []), ([3, 7, 8], [3, 7, 8])])
def watch.B6 : List Nat := [0, 1, 3, 7, 0, 16, 48, 112, 0, 511]
theorem watch.tab6 : rtab .any (opsOf Try.f25 6) = watch.T6 := by kernel_rfl
theorem watch.bits6 : waitsOk watch.T6.2 watch.B6 = true := by kernel_rfl
def watch.T9 : Bool × List (List Nat × List Nat) := (true, [([], []), ([], []), ([1], [1]), ([2], [2]), ([3], [3]), ([], []), ([5], [5]), ([6], [6]), ([7], [7]), ([8], [8]), ([4, 9], [4, 9]), ([0, 0, 1, 2, 3, 4, 5, 6, 7, 8, 9, 10], [0]), ([11, 0, 1, 2, 3, 4, 5, 6, 7, 8, 9, 10], [11]), ([12, 10, 10, 0, 1, 2, 3, 4, 5, 6, 7, 8, 9, 10], [10, 12])])
def watch.B9 : List Nat := [0, 0, 2, 6, 14, 0, 32, 96, 224, 480, 1022, 2047, 4095, 8191]
theorem watch.tab9 : rtab .any (opsOf Try.f25 9) = watch.T9 := by kernel_rfl
theorem watch.bits9 : waitsOk watch.T9.2 watch.B9 = true := by kernel_rfl
def watch.T10 : Bool × List (List Nat × List Nat) := (true, [([], []), ([], []), ([1], [1]), ([2], [2]), ([3], [3]), ([], []), ([5], [5]), ([6], [6]), ([7], [7]), ([], []), ([4, 8, 9], [4, 8, 9]), ([0, 0, 1, 2, 3, 4, 5, 6, 7, 8, 9, 10], [0]), ([11, 0, 1, 2, 3, 4, 5, 6, 7, 8, 9, 10], [11]), ([12, 10, 10, 0, 1, 2, 3, 4, 5, 6, 7, 8, 9, 10], [10, 12])])
def watch.B10 : List Nat := [0, 0, 2, 6, 14, 0, 32, 96, 224, 0, 1022, 2047, 4095, 8191]
theorem watch.tab10 : rtab .any (opsOf Try.f25 10) = watch.T10 := by kernel_rfl
theorem watch.bits10 : waitsOk watch.T10.2 watch.B10 = true := by kernel_rfl
def watch.T12 : Bool × List (List Nat × List Nat) := (true, [([], []), ([], []), ([], []), ([2], [2]), ([3], [3]), ([4], [4]), ([], []), ([6], [6]), ([5, 7], [5, 7]), ([8], [8]), ([], []), ([10], [10]), ([11], [11]), ([12], [12]), ([], []), ([14], [14]), ([13, 15], [13, 15]), ([0, 0, 2, 3, 4, 5, 6, 7, 8, 9, 13], [0]), ([17, 0, 2, 3, 4, 5, 6, 7, 8, 9, 13], [17]), ([18, 9, 0, 2, 3, 4, 5, 6, 7, 8, 9, 13], [9, 18]), ([1, 0, 1, 2, 3, 4, 5, 6, 7, 8, 9, 10, 11, 12, 13, 14, 15, 16, 17, 18, 19], [1]), ([20, 0, 1, 2, 3, 4, 5, 6, 7, 8, 9, 10, 11, 12, 13, 14, 15, 16, 17, 18, 19], [20]), ([21, 16, 19, 0, 1, 2, 3, 4, 5, 6, 7, 8, 9, 10, 11, 12, 13, 14, 15, 16, 17, 18, 19], [16, 21])])
def watch.B12 : List Nat := [0, 0, 0, 4, 12, 28, 0, 64, 252, 508, 0, 1024, 3072, 7168, 0, 16384, 64512, 16381, 147453, 409597, 1048575, 2097151, 4194303]
theorem watch.tab12 : rtab .any (opsOf Try.f25 12) = watch.T12 := by kernel_rfl
theorem watch.bits12 : waitsOk watch.T12.2 watch.B12 = true := by kernel_rfl
set_option maxHeartbeats 8000000 in
set_option maxRecDepth 100000 in
theorem watch_calls (kq : Nat) (wd : ByteArray) (steps : List S62) (fN : Nat → List Int) (fK : Nat → List (List Int)) (fO : Nat → List Int) (hsz : wd.size ≤ 1048576) (hO : ∀ i, i ≤ wd.size → (fO i).length ≤ i) (hK : ∀ i, i ≤ wd.size → (fK i).length ≤ i)
    (hO0 : fO 0 = []) (hs : ∀ i, i < wd.size → Step kq wd steps fN fK fO i) (B gX : Nat) (Aq : Option Addr) (cq : Nat) (lq : steps.length ≤ cq) (vN vS : Value) (w0 w : World)
    (h0 : Wt k62 2 34 62 51 w0 w B gX #[.slice Aq steps.length cq, .int .i64 0, vN, vS] (.slice Aq steps.length cq) vN vS (.slice none 0 0) steps (fN 0) (fK 0) []) :
    Calls Try.prog 25 #[.pointer (some ⟨gX, 0, none⟩), .string wd] w fun e w' => ∃ vo : Value, e = .returned vo ∧ (∃ okk : Nat → Prop, (Kd.int .i64).R 2 w' B okk vo (fO wd.size)) ∧ Below B w0 w' := by
  have hu30 := Try.underlying30
  have WT := AZ.mk h0
  have LQ := AZ.mk lq
  have HS := AZ.mk hs
  have HOS := AZ.mk hO
  have HKS := AZ.mk hK
  have HO0 := AZ.mk hO0
  have HSZ := AZ.mk hsz
  clear h0 lq hs hO hK hO0 hsz
  go_enter Try.func25, Try.ntmps25
  go_wp2_with (first | ((with_reducible refine gate_dst (N := 9) rfl ?_); refine Kd.R_lit (Kd.int .i64) _ 2 ?hg (N := 9) ?hd (xs := ([] : List Int)) (inner := []) (ok := fun _ => True) (okp := fun _ => True) ?hr ?hp (fun _ hk => hk) trivial (Below.refl _ _) (Nat.le_refl _) (by simp) ?_; (case hd => rfl); (case hg => rfl); (case hr => first | (go_simp; done) | (go_simp; rfl)); (case hp => exact (Reps.none _ _)); intro v9 w9 ho hb hg_ hnew_; clear hg_ hnew_; have n0_ := AZ.mk (WT.out.out_ hb ho); clear WT ho hb; have WT := n0_; clear n0_))
  go_loopg [5, 12] wd.size (fun kg v5 v12 w' => ∃ (i : Nat) (vN vS : Value), v12 = .int .i64 (i : Int) ∧ AZ (kg + i = wd.size) ∧ AZ (Wt k62 2 34 62 51 w0 w' B gX #[.slice Aq steps.length cq, .int .i64 (i : Int), vN, vS] (.slice Aq steps.length cq) vN vS v5 steps (fN i) (fK i) (fO i)))
  case atStart => exact ⟨0, vN, vS, rfl, ⟨rfl⟩, ⟨by rw [HO0.out]; exact WT.out⟩⟩
  case round =>
    clear WT
    obtain ⟨i, vN, vS, rfl, HG, WT⟩ := hrel
    by_cases hi : i < wd.size
    · have c13 : decide ((i : Int) < (wd.size : Int)) = true := decide_eq_true (by omega)
      obtain ⟨-, ⟨AN, cN, rfl, hln⟩, AS, cS, rfl, hls⟩ := WT.out.forms
      have LN := AZ.mk hln
      have LS := AZ.mk hls
      clear hln hls
      obtain ⟨an, ha, ho, hx⟩ := HS.out i hi
      have HA := AZ.mk ha
      have HAO := AZ.mk ho
      have HX := AZ.mk hx
      clear ha ho hx
      have p5 := eq_true (show 0 ≤ (i : Int) by omega)
      have q5 := eq_true (show (i : Int) < (wd.size : Int) by omega)
      have hx5 : ∀ h : i < wd.size, ((wd[i]'h).toNat : Int) = bt wd (i : Int) := fun h => by have h9 := bt_at wd (i : Int); simp only [Int.toNat_natCast] at h9; exact h9 h
      have HO := AZ.mk (show (fO i).length ≤ 1048576 by have := HOS.out i (by omega); have := HSZ.out; omega)
      have HK := AZ.mk (show (fK i).length ≤ 1048576 by have := HKS.out i (by omega); have := HSZ.out; omega)
      go_wp2
      refine start_ (n := 10) (S := fun w' => True) (ds := []) (bz 10 0) (by kernel_rfl) rfl rfl trivial (fun hHeld => ?_)
      refine with_tabW watch.tab5 watch.bits5 (fun HT_ HW_ => ?_)
      have n0_ := AZ.mk (WT.out.drew)
      clear WT
      have WT := n0_
      clear n0_
      generalize World.drew _ = wD at WT hHeld ⊢
      refine pure_ (i := 0) (N := some 15) (v := ?_) (a' := ?_) (bz 10 1) rfl rfl (any_of HT_.out (by kernel_rfl)) (fun _ _ _ h => h) (Or.inl ⟨by rfl, ?_⟩) ?_ ?_
      rotate_left
      · intro w'
        go_simp
        with_reducible rfl
      rotate_left
      · simp only [Act.put, sA, sB, sC, i64_w, i32_w]
        rfl
      refine pure_ (i := 1) (N := some 16) (v := ?_) (a' := ?_) (bz 10 3) rfl rfl (any_of HT_.out (by kernel_rfl)) (fun _ _ _ h => h) (Or.inl ⟨by rfl, ?_⟩) ?_ ?_
      rotate_left
      · intro w'
        go_simp
        with_reducible rfl
      rotate_left
      · simp only [Act.put, sA, sB, sC, i64_w, i32_w]
        rfl
      refine pure_ (i := 3) (N := some 18) (v := ?_) (a' := ?_) (bz 10 11) rfl rfl (any_of HT_.out (by kernel_rfl)) (fun _ _ _ h => h) (Or.inl ⟨by rfl, ?_⟩) ?_ ?_
      rotate_left
      · intro w'
        go_simp
        with_reducible rfl
      rotate_left
      · simp only [Act.put, sA, sB, sC, i64_w, i32_w]
        rfl
      refine pure_ (i := 4) (N := some 19) (v := ?_) (a' := ?_) (bz 10 27) rfl rfl (any_of HT_.out (by kernel_rfl)) (fun _ _ _ h => h) (Or.inl ⟨by rfl, ?_⟩) ?_ ?_
      rotate_left
      · intro w'
        go_simp
        with_reducible rfl
      rotate_left
      · simp only [Act.put, sA, sB, sC, i64_w, i32_w]
        rfl
      refine pure_ (i := 5) (N := some 20) (v := ?_) (a' := ?_) (bz 10 59) rfl rfl (any_of HT_.out (by kernel_rfl)) (fun _ _ _ h => h) (Or.inl ⟨by rfl, ?_⟩) ?_ ?_
      rotate_left
      · intro w'
        go_simp
        with_reducible rfl
      rotate_left
      · simp only [Act.put, sA, sB, sC, i64_w, i32_w]
        rfl
      refine inv_at [2, 6, 7, 8, 9] (fun a0_ b a w' => a = putSel a0_ b [(2, 17, .int .u8 (bt wd (i : Int))), (6, 21, .slice AS (fK i).length cS), (7, 22, .int .i64 ((fK i).length : Int)), (8, 7, .int .u8 (bt wd (i : Int))), (9, 8, .int .i64 ((fK i).length : Int))] ∧ (Wt k62 2 34 62 51 w0 w' B gX #[.slice Aq steps.length cq, .int .i64 (i : Int), .slice AN (fN i).length cN, .slice AS (fK i).length cS] (.slice Aq steps.length cq) (.slice AN (fN i).length cN) (.slice AS (fK i).length cS) u5 steps (fN i) (fK i) (fO i))) HT_.out HW_.out (by kernel_rfl) (by kernel_rfl) ?_ ?_ ?_
      · exact ⟨by simp only [putSel, Bool.false_eq_true, if_false], WT.out⟩
      · skip
        clear WT
        refine steps_cons ?_ ?_
        · rintro b a w' ⟨ha, Q_WT⟩ hb_ hon hoff
          refine ⟨_, rfl, fun K hK => ?_⟩
          have e15 : a.tmps[15]? = some (.string wd) := by rw [ha]; exact (putSel_off rfl).trans rfl
          have e16 : a.tmps[16]? = some (.int .i64 (i : Int)) := by rw [ha]; exact (putSel_off rfl).trans rfl
          replace ha := AZ.mk ha
          have WT := AZ.mk Q_WT
          refine value_ (w1 := w') (v := .int .u8 (bt wd (i : Int))) (by rfl) rfl ?_ ?_
          · go_simp
            (try simp only [i64_w])
            try rfl
          refine hK.out _ _ ⟨(by rw [ha.out]; exact putSel_upk 0 hb_ rfl rfl rfl), Q_WT⟩
        refine steps_cons ?_ ?_
        · rintro b a w' ⟨ha, Q_WT⟩ hb_ hon hoff
          refine ⟨_, rfl, fun K hK => ?_⟩
          have e20 : a.tmps[20]? = some (.pointer (some ⟨gX, 3, none⟩)) := by rw [ha]; exact (putSel_off rfl).trans rfl
          replace ha := AZ.mk ha
          have WT := AZ.mk Q_WT
          have hc_ : w'.cell? ⟨gX, 3, none⟩ = some (.slice AS (fK i).length cS) := (bc WT.out.box 3).trans rfl
          refine value_ (w1 := w') (v := .slice AS (fK i).length cS) (by rfl) rfl ?_ ?_
          · go_simp
            (try simp only [i64_w])
            try rfl
          refine hK.out _ _ ⟨(by rw [ha.out]; exact putSel_upk 1 hb_ rfl rfl rfl), Q_WT⟩
        refine steps_cons ?_ ?_
        · rintro b a w' ⟨ha, Q_WT⟩ hb_ hon hoff
          refine ⟨_, rfl, fun K hK => ?_⟩
          have e21 : a.tmps[21]? = some (.slice AS (fK i).length cS) := by rw [ha]; exact putSel_on (e := (6, 21, .slice AS (fK i).length cS)) 1 rfl rfl (hon 6 (by kernel_rfl)) rfl
          replace ha := AZ.mk ha
          have WT := AZ.mk Q_WT
          refine value_ (w1 := w') (v := .int .i64 ((fK i).length : Int)) (by rfl) rfl ?_ ?_
          · go_simp
            (try simp only [i64_w])
            try rfl
          refine hK.out _ _ ⟨(by rw [ha.out]; exact putSel_upk 2 hb_ rfl rfl rfl), Q_WT⟩
        refine steps_cons ?_ ?_
        · rintro b a w' ⟨ha, Q_WT⟩ hb_ hon hoff
          refine ⟨_, rfl, fun K hK => ?_⟩
          have e17 : a.tmps[17]? = some (.int .u8 (bt wd (i : Int))) := by rw [ha]; exact putSel_on (e := (2, 17, .int .u8 (bt wd (i : Int)))) 0 rfl rfl (hon 2 (by kernel_rfl)) rfl
          replace ha := AZ.mk ha
          have WT := AZ.mk Q_WT
          refine value_ (w1 := w') (v := .int .u8 (bt wd (i : Int))) (by rfl) rfl ?_ ?_
          · go_simp
            (try simp only [i64_w])
            try rfl
          refine hK.out _ _ ⟨(by rw [ha.out]; exact putSel_upk 3 hb_ rfl rfl rfl), Q_WT⟩
        refine steps_cons ?_ ?_
        · rintro b a w' ⟨ha, Q_WT⟩ hb_ hon hoff
          refine ⟨_, rfl, fun K hK => ?_⟩
          have e22 : a.tmps[22]? = some (.int .i64 ((fK i).length : Int)) := by rw [ha]; exact putSel_on (e := (7, 22, .int .i64 ((fK i).length : Int))) 2 rfl rfl (hon 7 (by kernel_rfl)) rfl
          replace ha := AZ.mk ha
          have WT := AZ.mk Q_WT
          refine value_ (w1 := w') (v := .int .i64 ((fK i).length : Int)) (by rfl) rfl ?_ ?_
          · go_simp
            (try simp only [i64_w])
            try rfl
          refine hK.out _ _ ⟨(by rw [ha.out]; exact putSel_upk 4 hb_ rfl rfl rfl), Q_WT⟩
        exact steps_nil
      · rintro b a w' hall ⟨ha, Q_WT⟩
        clear WT
        have hb2_ := hall 2 (by kernel_rfl)
        have hb6_ := hall 6 (by kernel_rfl)
        have hb7_ := hall 7 (by kernel_rfl)
        have hb8_ := hall 8 (by kernel_rfl)
        have hb9_ := hall 9 (by kernel_rfl)
        subst ha
        simp only [putSel, hb2_, hb6_, hb7_, hb8_, hb9_, if_true, Act.put, sA, sB, sC]
        have WT := AZ.mk Q_WT
        clear Q_WT
        clear hall hb2_ hb6_ hb7_ hb8_ hb9_
        go_wp2
        refine start_ (n := 10) (S := fun w' => True) (ds := []) (bz 10 0) (by kernel_rfl) rfl rfl trivial (fun hHeld => ?_)
        refine with_tabW watch.tab6 watch.bits6 (fun HT_ HW_ => ?_)
        have n0_ := AZ.mk (WT.out.drew)
        clear WT
        have WT := n0_
        clear n0_
        generalize World.drew _ = wD at WT hHeld ⊢
        refine pure_ (i := 0) (N := some 23) (v := ?_) (a' := ?_) (bz 10 1) rfl rfl (any_of HT_.out (by kernel_rfl)) (fun _ _ _ h => h) (Or.inl ⟨by rfl, ?_⟩) ?_ ?_
        rotate_left
        · intro w'
          go_simp
          with_reducible rfl
        rotate_left
        · simp only [Act.put, sA, sB, sC, i64_w, i32_w]
          rfl
        refine pure_ (i := 1) (N := some 24) (v := ?_) (a' := ?_) (bz 10 3) rfl rfl (any_of HT_.out (by kernel_rfl)) (fun _ _ _ h => h) (Or.inl ⟨by rfl, ?_⟩) ?_ ?_
        rotate_left
        · intro w'
          go_simp
          with_reducible rfl
        rotate_left
        · simp only [Act.put, sA, sB, sC, i64_w, i32_w]
          rfl
        refine pure_ (i := 2) (N := some 25) (v := ?_) (a' := ?_) (bz 10 7) rfl rfl (any_of HT_.out (by kernel_rfl)) (fun _ _ _ h => h) (Or.inl ⟨by rfl, ?_⟩) ?_ ?_
        rotate_left
        · intro w'
          go_simp
          with_reducible rfl
        rotate_left
        · simp only [Act.put, sA, sB, sC, i64_w, i32_w]
          rfl
        refine pure_ (i := 4) (N := some 27) (v := ?_) (a' := ?_) (bz 10 23) rfl rfl (any_of HT_.out (by kernel_rfl)) (fun _ _ _ h => h) (Or.inl ⟨by rfl, ?_⟩) ?_ ?_
        rotate_left
        · intro w'
          go_simp
          with_reducible rfl
        rotate_left
        · simp only [Act.put, sA, sB, sC, i64_w, i32_w]
          rfl
        refine pure_ (i := 5) (N := some 28) (v := ?_) (a' := ?_) (bz 10 55) rfl rfl (any_of HT_.out (by kernel_rfl)) (fun _ _ _ h => h) (Or.inl ⟨by rfl, ?_⟩) ?_ ?_
        rotate_left
        · intro w'
          go_simp
          with_reducible rfl
        rotate_left
        · simp only [Act.put, sA, sB, sC, i64_w, i32_w]
          rfl
        refine pure_ (i := 6) (N := some 29) (v := ?_) (a' := ?_) (bz 10 119) rfl rfl (any_of HT_.out (by kernel_rfl)) (fun _ _ _ h => h) (Or.inl ⟨by rfl, ?_⟩) ?_ ?_
        rotate_left
        · intro w'
          go_simp
          with_reducible rfl
        rotate_left
        · simp only [Act.put, sA, sB, sC, i64_w, i32_w]
          rfl
        refine pure_ (i := 8) (N := some 31) (v := ?_) (a' := ?_) (bz 10 375) rfl rfl (any_of HT_.out (by kernel_rfl)) (fun _ _ _ h => h) (Or.inl ⟨by rfl, ?_⟩) ?_ ?_
        rotate_left
        · intro w'
          go_simp
          with_reducible rfl
        rotate_left
        · simp only [Act.put, sA, sB, sC, i64_w, i32_w]
          rfl
        refine inv_at [3, 7, 9] (fun a0_ b a w' => a = putSel a0_ b [(3, 26, .agg #[.slice Aq steps.length cq]), (7, 30, .slice AN (fN i).length cN), (9, 32, .bool an)] ∧ (Wt k62 2 34 62 51 w0 w' B gX #[.slice Aq steps.length cq, .int .i64 (i : Int), .slice AN (fN i).length cN, .slice AS (fK i).length cS] (.slice Aq steps.length cq) (.slice AN (fN i).length cN) (.slice AS (fK i).length cS) u5 steps (fN i) (fK i) (fO i))) HT_.out HW_.out (by kernel_rfl) (by kernel_rfl) ?_ ?_ ?_
        · exact ⟨by simp only [putSel, Bool.false_eq_true, if_false], WT.out⟩
        · skip
          clear WT
          refine steps_cons ?_ ?_
          · rintro b a w' ⟨ha, Q_WT⟩ hb_ hon hoff
            refine ⟨_, rfl, fun K hK => ?_⟩
            have e25 : a.tmps[25]? = some (.pointer (some ⟨gX, 0, none⟩)) := by rw [ha]; exact (putSel_off rfl).trans rfl
            replace ha := AZ.mk ha
            have WT := AZ.mk Q_WT
            have hc_ : w'.cell? ⟨gX, 0, none⟩ = some (.slice Aq steps.length cq) := (bc WT.out.box 0).trans rfl
            refine value_ (w1 := w') (v := .agg #[.slice Aq steps.length cq]) (by rfl) rfl ?_ ?_
            · go_simp
              (try simp only [i64_w])
              try rfl
            refine hK.out _ _ ⟨(by rw [ha.out]; exact putSel_upk 0 hb_ rfl rfl rfl), Q_WT⟩
          refine steps_cons ?_ ?_
          · rintro b a w' ⟨ha, Q_WT⟩ hb_ hon hoff
            refine ⟨_, rfl, fun K hK => ?_⟩
            have e29 : a.tmps[29]? = some (.pointer (some ⟨gX, 2, none⟩)) := by rw [ha]; exact (putSel_off rfl).trans rfl
            replace ha := AZ.mk ha
            have WT := AZ.mk Q_WT
            have hc_ : w'.cell? ⟨gX, 2, none⟩ = some (.slice AN (fN i).length cN) := (bc WT.out.box 2).trans rfl
            refine value_ (w1 := w') (v := .slice AN (fN i).length cN) (by rfl) rfl ?_ ?_
            · go_simp
              (try simp only [i64_w])
              try rfl
            refine hK.out _ _ ⟨(by rw [ha.out]; exact putSel_upk 1 hb_ rfl rfl rfl), Q_WT⟩
          refine steps_cons ?_ ?_
          · rintro b a w' ⟨ha, Q_WT⟩ hb_ hon hoff
            refine ⟨_, rfl, fun K hK => ?_⟩
            have e26 : a.tmps[26]? = some (.agg #[.slice Aq steps.length cq]) := by rw [ha]; exact putSel_on (e := (3, 26, .agg #[.slice Aq steps.length cq])) 0 rfl rfl (hon 3 (by kernel_rfl)) rfl
            have e30 : a.tmps[30]? = some (.slice AN (fN i).length cN) := by rw [ha]; exact putSel_on (e := (7, 30, .slice AN (fN i).length cN)) 1 rfl rfl (hon 7 (by kernel_rfl)) rfl
            have e31 : a.tmps[31]? = some (.int .u8 (bt wd (i : Int))) := by rw [ha]; exact (putSel_off rfl).trans rfl
            replace ha := AZ.mk ha
            have WT := AZ.mk Q_WT
            refine goes_ Try.func40 (by kernel_rfl) rfl #[.agg #[.slice Aq steps.length cq], .slice AN (fN i).length cN, .int .u8 (bt wd (i : Int))] (by rfl) rfl rfl (by simp only [List.map_toArray, List.map_cons, List.map_nil, eval_of e26, eval_of e30, eval_of e31]) ?_
            refine (impl_Query_isAnswer.calls kq Aq cq steps AN cN (fN i) (bt wd (i : Int)) an _ WT.out.readq LQ.out WT.out.readn LN.out HA.out).mono ?_
            rintro e w_ ⟨rfl, hb⟩
            refine ⟨_, rfl, ?_⟩
            refine hK.out _ _ ⟨(by rw [ha.out]; exact putSel_upk 2 hb_ rfl rfl rfl), WT.out.below hb⟩
          exact steps_nil
        · rintro b a w' hall ⟨ha, Q_WT⟩
          clear WT
          have hb3_ := hall 3 (by kernel_rfl)
          have hb7_ := hall 7 (by kernel_rfl)
          have hb9_ := hall 9 (by kernel_rfl)
          subst ha
          simp only [putSel, hb3_, hb7_, hb9_, if_true, Act.put, sA, sB, sC]
          have WT := AZ.mk Q_WT
          clear Q_WT
          clear hall hb3_ hb7_ hb9_
          go_upto_if 32 with fail
          go_cut [5] (fun v5 w' => AZ (Wt k62 2 34 62 51 w0 w' B gX #[.slice Aq steps.length cq, .int .i64 (i : Int), .slice AN (fN i).length cN, .slice AS (fK i).length cS] (.slice Aq steps.length cq) (.slice AN (fN i).length cN) (.slice AS (fK i).length cS) v5 steps (fN i) (fK i) (fO (i + 1))))
          case first =>
            have hc_ : World.cell? _ _ = some _ := (bc WT.out.box 1).trans rfl
            cases an
            · go_wp2
              go_meet
              case rel => exact ⟨by rw [HAO.out]; exact WT.out⟩
            · go_wp2_with (first | ((with_reducible refine gate_builtin (b := .append) (xs := #[.tmp 33, .tmp 38]) rfl ?_); at_builtin; refine WT.out.app_o rfl (.tmp 33) (.tmp 38) 34 rfl Try.underlying34 info2 (i : Int) rfl rfl (by have := HO.out; omega) ?_; intro v39 w39 hw_; clear hc_; have n0_ := AZ.mk hw_; clear WT hw_; have WT := n0_; clear n0_))
              go_meet
              case rel => exact ⟨by rw [HAO.out]; exact WT.out⟩
          case rest =>
            have WT := hcut
            clear hcut HA HAO
            rcases HX.out with ⟨hc, hi2, hk⟩ | ⟨hc, ⟨hr, hl, hn, hk⟩ | ⟨hr, hl, hn, hk⟩ | ⟨hr, hn, hk⟩⟩
            · have HC := AZ.mk hc
              have HI := AZ.mk hi2
              have HK1 := AZ.mk hk
              clear hc hi2 hk
              go_wp2_with (first | ((with_reducible refine gate_callee (f := 41) rfl ?_); refine goesL_ (some 42) rfl rfl Try.func41 (by kernel_rfl) rfl #[.int .u8 (bt wd (i : Int))] rfl (by (try simp only [List.map_toArray, List.map_cons, List.map_nil]); first | done | rfl) ?_; refine (impl_isCall.calls (bt wd (i : Int)) true _ HC.out).mono ?_; rintro e w42 ⟨rfl, hd⟩; refine ⟨_, rfl, ?_⟩; have n0_ := AZ.mk (WT.out.below hd.below); clear WT hd; have WT := n0_; clear n0_))
              refine start_ (n := 14) (S := fun w' => True) (ds := []) (bz 14 0) (by kernel_rfl) rfl rfl trivial (fun hHeld => ?_)
              refine with_tabW watch.tab9 watch.bits9 (fun HT_ HW_ => ?_)
              have n0_ := AZ.mk (WT.out.drew)
              clear WT
              have WT := n0_
              clear n0_
              generalize World.drew _ = wD at WT hHeld ⊢
              refine pure_ (i := 0) (N := some 43) (v := ?_) (a' := ?_) (bz 14 1) rfl rfl (any_of HT_.out (by kernel_rfl)) (fun _ _ _ h => h) (Or.inl ⟨by rfl, ?_⟩) ?_ ?_
              rotate_left
              · intro w'
                go_simp
                with_reducible rfl
              rotate_left
              · simp only [Act.put, sA, sB, sC, i64_w, i32_w]
                rfl
              refine pure_ (i := 1) (N := some 44) (v := ?_) (a' := ?_) (bz 14 3) rfl rfl (any_of HT_.out (by kernel_rfl)) (fun _ _ _ h => h) (Or.inl ⟨by rfl, ?_⟩) ?_ ?_
              rotate_left
              · intro w'
                go_simp
                with_reducible rfl
              rotate_left
              · simp only [Act.put, sA, sB, sC, i64_w, i32_w]
                rfl
              refine pure_ (i := 2) (N := some 45) (v := ?_) (a' := ?_) (bz 14 7) rfl rfl (any_of HT_.out (by kernel_rfl)) (fun _ _ _ h => h) (Or.inl ⟨by rfl, ?_⟩) ?_ ?_
              rotate_left
              · intro w'
                go_simp
                with_reducible rfl
              rotate_left
              · simp only [Act.put, sA, sB, sC, i64_w, i32_w]
                rfl
              refine pure_ (i := 3) (N := some 46) (v := ?_) (a' := ?_) (bz 14 15) rfl rfl (any_of HT_.out (by kernel_rfl)) (fun _ _ _ h => h) (Or.inl ⟨by rfl, ?_⟩) ?_ ?_
              rotate_left
              · intro w'
                go_simp
                with_reducible rfl
              rotate_left
              · simp only [Act.put, sA, sB, sC, i64_w, i32_w]
                rfl
              refine pure_ (i := 5) (N := some 48) (v := ?_) (a' := ?_) (bz 14 47) rfl rfl (any_of HT_.out (by kernel_rfl)) (fun _ _ _ h => h) (Or.inl ⟨by rfl, ?_⟩) ?_ ?_
              rotate_left
              · intro w'
                go_simp
                with_reducible rfl
              rotate_left
              · simp only [Act.put, sA, sB, sC, i64_w, i32_w]
                rfl
              refine pure_ (i := 6) (N := some 49) (v := ?_) (a' := ?_) (bz 14 111) rfl rfl (any_of HT_.out (by kernel_rfl)) (fun _ _ _ h => h) (Or.inl ⟨by rfl, ?_⟩) ?_ ?_
              rotate_left
              · intro w'
                go_simp
                with_reducible rfl
              rotate_left
              · simp only [Act.put, sA, sB, sC, i64_w, i32_w]
                rfl
              refine pure_ (i := 7) (N := some 50) (v := ?_) (a' := ?_) (bz 14 239) rfl rfl (any_of HT_.out (by kernel_rfl)) (fun _ _ _ h => h) (Or.inl ⟨by rfl, ?_⟩) ?_ ?_
              rotate_left
              · intro w'
                go_simp
                with_reducible rfl
              rotate_left
              · simp only [Act.put, sA, sB, sC, i64_w, i32_w]
                rfl
              refine inv_at [4, 8, 9, 10, 11, 12, 13] (fun a0_ b a w' => ∃ (b9 : Value) (s10 : Value), a = putSel a0_ b [(4, 47, .slice AS (fK i).length cS), (8, 51, .slice AN (fN i).length cN), (9, 52, b9), (10, 53, s10), (11, 54, .pointer (some ⟨gX, 0, none⟩)), (12, 55, .pointer (some ⟨gX, 3, none⟩))] ∧ (b 10 = false → Wt k62 2 34 62 51 w0 w' B gX #[.slice Aq steps.length cq, .int .i64 (i : Int), .slice AN (fN i).length cN, .slice AS (fK i).length cS] (.slice Aq steps.length cq) (.slice AN (fN i).length cN) (.slice AS (fK i).length cS) u5 steps (fN i) (fK i) (fO (i + 1))) ∧ (b 10 = true → b 13 = false → Wt k62 2 34 62 51 w0 w' B gX #[.slice Aq steps.length cq, .int .i64 (i : Int), .slice AN (fN i).length cN, .slice AS (fK i).length cS] (.slice Aq steps.length cq) (.slice AN (fN i).length cN) s10 u5 steps (fN i) (fK i ++ [fN i]) (fO (i + 1))) ∧ (b 13 = true → Wt k62 2 34 62 51 w0 w' B gX #[.slice Aq steps.length cq, .int .i64 (i : Int), .slice AN (fN i).length cN, s10] (.slice Aq steps.length cq) (.slice AN (fN i).length cN) s10 u5 steps (fN i) (fK i ++ [fN i]) (fO (i + 1))) ∧ (b 9 = true → b 10 = false → ∃ g_ : Nat, b9 = .slice (some ⟨g_, 0, none⟩) 1 1 ∧ w'.heap[g_]? = some (.cells [.slice AN (fN i).length cN].toArray 34 (0, 0)))) HT_.out HW_.out (by kernel_rfl) (by kernel_rfl) ?_ ?_ ?_
              · exact ⟨.bool false, .bool false, by simp only [putSel, Bool.false_eq_true, if_false], fun _ => WT.out, fun h_ => absurd h_ (by decide), fun h_ => absurd h_ (by decide), fun h_ => absurd h_ (by decide)⟩
              · skip
                clear WT
                refine steps_cons ?_ ?_
                · rintro b a w' ⟨b9, s10, ha, Q_WT, Q_WU, Q_WV, Q_BK⟩ hb_ hon hoff
                  refine ⟨_, rfl, fun K hK => ?_⟩
                  have e46 : a.tmps[46]? = some (.pointer (some ⟨gX, 3, none⟩)) := by rw [ha]; exact (putSel_off rfl).trans rfl
                  replace ha := AZ.mk ha
                  have WT := AZ.mk (Q_WT (hoff 10 (by kernel_rfl)))
                  have hc_ : w'.cell? ⟨gX, 3, none⟩ = some (.slice AS (fK i).length cS) := (bc WT.out.box 3).trans rfl
                  refine value_ (w1 := w') (v := .slice AS (fK i).length cS) (by rfl) rfl ?_ ?_
                  · go_simp
                    (try simp only [i64_w])
                    try rfl
                  refine hK.out _ _ ⟨b9, s10, (by rw [ha.out]; exact putSel_upk 0 hb_ rfl rfl rfl), Q_WT, fun h0_ _ => absurd ((hoff 10 (by kernel_rfl)).symm.trans h0_) (by decide), fun h0_ => absurd ((hoff 13 (by kernel_rfl)).symm.trans h0_) (by decide), Q_BK⟩
                refine steps_cons ?_ ?_
                · rintro b a w' ⟨b9, s10, ha, Q_WT, Q_WU, Q_WV, Q_BK⟩ hb_ hon hoff
                  refine ⟨_, rfl, fun K hK => ?_⟩
                  have e50 : a.tmps[50]? = some (.pointer (some ⟨gX, 2, none⟩)) := by rw [ha]; exact (putSel_off rfl).trans rfl
                  replace ha := AZ.mk ha
                  have WT := AZ.mk (Q_WT (hoff 10 (by kernel_rfl)))
                  have hc_ : w'.cell? ⟨gX, 2, none⟩ = some (.slice AN (fN i).length cN) := (bc WT.out.box 2).trans rfl
                  refine value_ (w1 := w') (v := .slice AN (fN i).length cN) (by rfl) rfl ?_ ?_
                  · go_simp
                    (try simp only [i64_w])
                    try rfl
                  refine hK.out _ _ ⟨b9, s10, (by rw [ha.out]; exact putSel_upk 1 hb_ rfl rfl rfl), Q_WT, fun h0_ _ => absurd ((hoff 10 (by kernel_rfl)).symm.trans h0_) (by decide), fun h0_ => absurd ((hoff 13 (by kernel_rfl)).symm.trans h0_) (by decide), fun h0_ _ => absurd ((hoff 9 (by kernel_rfl)).symm.trans h0_) (by decide)⟩
                refine steps_cons ?_ ?_
                · rintro b a w' ⟨b9, s10, ha, Q_WT, Q_WU, Q_WV, Q_BK⟩ hb_ hon hoff
                  refine ⟨_, rfl, fun K hK => ?_⟩
                  have e51 : a.tmps[51]? = some (.slice AN (fN i).length cN) := by rw [ha]; exact putSel_on (e := (8, 51, .slice AN (fN i).length cN)) 1 rfl rfl (hon 8 (by kernel_rfl)) rfl
                  replace ha := AZ.mk ha
                  have WT := AZ.mk (Q_WT (hoff 10 (by kernel_rfl)))
                  refine value_ (w1 := ?_) (v := ?_) (by rfl) rfl ?_ ?_
                  rotate_left 2
                  · go_simp
                    constructor
                    · rfl
                    · rfl
                  refine hK.out _ _ ⟨.slice (some ⟨w'.heap.size, 0, none⟩) 1 1, s10, (by rw [ha.out]; exact putSel_upk 2 hb_ rfl rfl rfl), fun _ => (WT.out.alloc _), fun h0_ _ => absurd ((hoff 10 (by kernel_rfl)).symm.trans h0_) (by decide), fun h0_ => absurd ((hoff 13 (by kernel_rfl)).symm.trans h0_) (by decide), fun _ _ => ⟨w'.heap.size, rfl, heap_alloc_new w' _⟩⟩
                refine steps_cons ?_ ?_
                · rintro b a w' ⟨b9, s10, ha, Q_WT, Q_WU, Q_WV, Q_BK⟩ hb_ hon hoff
                  refine ⟨_, rfl, fun K hK => ?_⟩
                  have e47 : a.tmps[47]? = some (.slice AS (fK i).length cS) := by rw [ha]; exact putSel_on (e := (4, 47, .slice AS (fK i).length cS)) 0 rfl rfl (hon 4 (by kernel_rfl)) rfl
                  have e52 : a.tmps[52]? = some (b9) := by rw [ha]; exact putSel_on (e := (9, 52, b9)) 2 rfl rfl (hon 9 (by kernel_rfl)) rfl
                  replace ha := AZ.mk ha
                  have WT := AZ.mk (Q_WT hb_)
                  have BK := AZ.mk (Q_BK (hon 9 (by kernel_rfl)) hb_)
                  obtain ⟨g_, hq_, hg_⟩ := BK.out
                  refine WT.out.app_s (by rfl) (.tmp 47) (.tmp 52) 49 rfl Try.underlying49 inf34 g_ (eval_of e47) ((eval_of e52).trans hq_) hg_ (by have := HK.out; omega) ?_
                  intro v_ w_ hw_
                  refine hK.out _ _ ⟨b9, v_, (by rw [ha.out]; exact putSel_upk 3 hb_ rfl rfl rfl), fun h0_ => absurd ((up_self b 10).symm.trans h0_) (by decide), fun _ _ => hw_, fun h0_ => absurd ((hoff 13 (by kernel_rfl)).symm.trans h0_) (by decide), fun _ h1_ => absurd ((up_self b 10).symm.trans h1_) (by decide)⟩
                refine steps_cons ?_ ?_
                · rintro b a w' ⟨b9, s10, ha, Q_WT, Q_WU, Q_WV, Q_BK⟩ hb_ hon hoff
                  refine ⟨_, rfl, fun K hK => ?_⟩
                  have e43 : a.tmps[43]? = some (.pointer (some ⟨gX, 0, none⟩)) := by rw [ha]; exact (putSel_off rfl).trans rfl
                  replace ha := AZ.mk ha
                  have WU := AZ.mk (Q_WU (hon 10 (by kernel_rfl)) (hoff 13 (by kernel_rfl)))
                  refine value_ (w1 := w') (v := .pointer (some ⟨gX, 0, none⟩)) (by rfl) rfl ?_ ?_
                  · go_simp
                    (try simp only [i64_w])
                    try rfl
                  refine hK.out _ _ ⟨b9, s10, (by rw [ha.out]; exact putSel_upk 4 hb_ rfl rfl rfl), fun h0_ => absurd ((hon 10 (by kernel_rfl)).symm.trans h0_) (by decide), Q_WU, fun h0_ => absurd ((hoff 13 (by kernel_rfl)).symm.trans h0_) (by decide), fun _ h1_ => absurd ((hon 10 (by kernel_rfl)).symm.trans h1_) (by decide)⟩
                refine steps_cons ?_ ?_
                · rintro b a w' ⟨b9, s10, ha, Q_WT, Q_WU, Q_WV, Q_BK⟩ hb_ hon hoff
                  refine ⟨_, rfl, fun K hK => ?_⟩
                  have e54 : a.tmps[54]? = some (.pointer (some ⟨gX, 0, none⟩)) := by rw [ha]; exact putSel_on (e := (11, 54, .pointer (some ⟨gX, 0, none⟩))) 4 rfl rfl (hon 11 (by kernel_rfl)) rfl
                  replace ha := AZ.mk ha
                  have WU := AZ.mk (Q_WU (hon 10 (by kernel_rfl)) (hoff 13 (by kernel_rfl)))
                  refine value_ (w1 := w') (v := .pointer (some ⟨gX, 3, none⟩)) (by rfl) rfl ?_ ?_
                  · go_simp
                    (try simp only [i64_w])
                    try rfl
                  refine hK.out _ _ ⟨b9, s10, (by rw [ha.out]; exact putSel_upk 5 hb_ rfl rfl rfl), fun h0_ => absurd ((hon 10 (by kernel_rfl)).symm.trans h0_) (by decide), Q_WU, fun h0_ => absurd ((hoff 13 (by kernel_rfl)).symm.trans h0_) (by decide), fun _ h1_ => absurd ((hon 10 (by kernel_rfl)).symm.trans h1_) (by decide)⟩
                refine steps_cons ?_ ?_
                · rintro b a w' ⟨b9, s10, ha, Q_WT, Q_WU, Q_WV, Q_BK⟩ hb_ hon hoff
                  refine ⟨_, rfl, fun K hK => ?_⟩
                  have e55 : a.tmps[55]? = some (.pointer (some ⟨gX, 3, none⟩)) := by rw [ha]; exact putSel_on (e := (12, 55, .pointer (some ⟨gX, 3, none⟩))) 5 rfl rfl (hon 12 (by kernel_rfl)) rfl
                  have e53 : a.tmps[53]? = some (s10) := by rw [ha]; exact putSel_on (e := (10, 53, s10)) 3 rfl rfl (hon 10 (by kernel_rfl)) rfl
                  replace ha := AZ.mk ha
                  have WU := AZ.mk (Q_WU (hon 10 (by kernel_rfl)) hb_)
                  obtain ⟨-, -, As_, cs_, hr_, -⟩ := WU.out.forms
                  obtain ⟨ns_, hns_⟩ : ∃ n, n = (fK i ++ [fN i]).length := ⟨_, rfl⟩
                  rw [← hns_] at hr_
                  clear hns_
                  subst hr_
                  have hc_ : w'.cell? ⟨gX, 3, none⟩ = some (.slice AS (fK i).length cS) := (bc WU.out.box 3).trans rfl
                  have hf_ := bf WU.out.box 3
                  refine skip_ (w1 := ?_) (by rfl) rfl ?_ ?_
                  rotate_left
                  · go_simp
                    rfl
                  refine hK.out _ _ ⟨b9, (.slice As_ ns_ cs_), (by rw [ha.out]; exact putSel_none (v := undef) rfl), fun h0_ => absurd ((hon 10 (by kernel_rfl)).symm.trans h0_) (by decide), fun _ h1_ => absurd ((up_self b 13).symm.trans h1_) (by decide), fun _ => (WU.out.set 3 _), fun _ h1_ => absurd ((hon 10 (by kernel_rfl)).symm.trans h1_) (by decide)⟩
                exact steps_nil
              · rintro b a w' hall ⟨b9, s10, ha, Q_WT, Q_WU, Q_WV, Q_BK⟩
                clear WT
                have hb4_ := hall 4 (by kernel_rfl)
                have hb8_ := hall 8 (by kernel_rfl)
                have hb9_ := hall 9 (by kernel_rfl)
                have hb10_ := hall 10 (by kernel_rfl)
                have hb11_ := hall 11 (by kernel_rfl)
                have hb12_ := hall 12 (by kernel_rfl)
                have hb13_ := hall 13 (by kernel_rfl)
                subst ha
                simp only [putSel, hb4_, hb8_, hb9_, hb10_, hb11_, hb12_, hb13_, if_true, Act.put, sA, sB, sC]
                clear Q_WT
                clear Q_WU
                have WV := AZ.mk (Q_WV hb13_)
                clear Q_WV
                clear Q_BK
                clear hall hb4_ hb8_ hb9_ hb10_ hb11_ hb12_ hb13_
                clear WT
                go_wp2
                refine start_ (n := 14) (S := fun w' => True) (ds := []) (bz 14 0) (by kernel_rfl) rfl rfl trivial (fun hHeld => ?_)
                refine with_tabW watch.tab10 watch.bits10 (fun HT_ HW_ => ?_)
                have n0_ := AZ.mk (WV.out.drew)
                clear WV
                have WV := n0_
                clear n0_
                generalize World.drew _ = wD at WV hHeld ⊢
                refine pure_ (i := 0) (N := some 56) (v := ?_) (a' := ?_) (bz 14 1) rfl rfl (any_of HT_.out (by kernel_rfl)) (fun _ _ _ h => h) (Or.inl ⟨by rfl, ?_⟩) ?_ ?_
                rotate_left
                · intro w'
                  go_simp
                  with_reducible rfl
                rotate_left
                · simp only [Act.put, sA, sB, sC, i64_w, i32_w]
                  rfl
                refine pure_ (i := 1) (N := some 57) (v := ?_) (a' := ?_) (bz 14 3) rfl rfl (any_of HT_.out (by kernel_rfl)) (fun _ _ _ h => h) (Or.inl ⟨by rfl, ?_⟩) ?_ ?_
                rotate_left
                · intro w'
                  go_simp
                  with_reducible rfl
                rotate_left
                · simp only [Act.put, sA, sB, sC, i64_w, i32_w]
                  rfl
                refine pure_ (i := 2) (N := some 58) (v := ?_) (a' := ?_) (bz 14 7) rfl rfl (any_of HT_.out (by kernel_rfl)) (fun _ _ _ h => h) (Or.inl ⟨by rfl, ?_⟩) ?_ ?_
                rotate_left
                · intro w'
                  go_simp
                  with_reducible rfl
                rotate_left
                · simp only [Act.put, sA, sB, sC, i64_w, i32_w]
                  rfl
                refine pure_ (i := 3) (N := some 59) (v := ?_) (a' := ?_) (bz 14 15) rfl rfl (any_of HT_.out (by kernel_rfl)) (fun _ _ _ h => h) (Or.inl ⟨by rfl, ?_⟩) ?_ ?_
                rotate_left
                · intro w'
                  go_simp
                  with_reducible rfl
                rotate_left
                · simp only [Act.put, sA, sB, sC, i64_w, i32_w]
                  rfl
                refine pure_ (i := 5) (N := some 61) (v := ?_) (a' := ?_) (bz 14 47) rfl rfl (any_of HT_.out (by kernel_rfl)) (fun _ _ _ h => h) (Or.inl ⟨by rfl, ?_⟩) ?_ ?_
                rotate_left
                · intro w'
                  go_simp
                  with_reducible rfl
                rotate_left
                · simp only [Act.put, sA, sB, sC, i64_w, i32_w]
                  rfl
                refine pure_ (i := 6) (N := some 62) (v := ?_) (a' := ?_) (bz 14 111) rfl rfl (any_of HT_.out (by kernel_rfl)) (fun _ _ _ h => h) (Or.inl ⟨by rfl, ?_⟩) ?_ ?_
                rotate_left
                · intro w'
                  go_simp
                  with_reducible rfl
                rotate_left
                · simp only [Act.put, sA, sB, sC, i64_w, i32_w]
                  rfl
                refine pure_ (i := 7) (N := some 63) (v := ?_) (a' := ?_) (bz 14 239) rfl rfl (any_of HT_.out (by kernel_rfl)) (fun _ _ _ h => h) (Or.inl ⟨by rfl, ?_⟩) ?_ ?_
                rotate_left
                · intro w'
                  go_simp
                  with_reducible rfl
                rotate_left
                · simp only [Act.put, sA, sB, sC, i64_w, i32_w]
                  rfl
                refine pure_ (i := 9) (N := some 65) (v := ?_) (a' := ?_) (bz 14 751) rfl rfl (any_of HT_.out (by kernel_rfl)) (fun _ _ _ h => h) (Or.inl ⟨by rfl, ?_⟩) ?_ ?_
                rotate_left
                · intro w'
                  go_simp
                  with_reducible rfl
                rotate_left
                · simp only [Act.put, sA, sB, sC, i64_w, i32_w]
                  rfl
                refine inv_at [4, 8, 10, 11, 12, 13] (fun a0_ b a w' => ∃ (n10 : Value), a = putSel a0_ b [(4, 60, .agg #[.slice Aq steps.length cq]), (8, 64, .slice AN (fN i).length cN), (10, 66, n10), (11, 67, .pointer (some ⟨gX, 0, none⟩)), (12, 68, .pointer (some ⟨gX, 2, none⟩))] ∧ (b 10 = false → Wt k62 2 34 62 51 w0 w' B gX #[.slice Aq steps.length cq, .int .i64 (i : Int), .slice AN (fN i).length cN, s10] (.slice Aq steps.length cq) (.slice AN (fN i).length cN) s10 u5 steps (fN i) (fK i ++ [fN i]) (fO (i + 1))) ∧ (b 10 = true → b 13 = false → Wt k62 2 34 62 51 w0 w' B gX #[.slice Aq steps.length cq, .int .i64 (i : Int), .slice AN (fN i).length cN, s10] (.slice Aq steps.length cq) n10 s10 u5 steps (fN (i + 1)) (fK i ++ [fN i]) (fO (i + 1))) ∧ (b 13 = true → Wt k62 2 34 62 51 w0 w' B gX #[.slice Aq steps.length cq, .int .i64 (i : Int), n10, s10] (.slice Aq steps.length cq) n10 s10 u5 steps (fN (i + 1)) (fK i ++ [fN i]) (fO (i + 1)))) HT_.out HW_.out (by kernel_rfl) (by kernel_rfl) ?_ ?_ ?_
                · exact ⟨.bool false, by simp only [putSel, Bool.false_eq_true, if_false], fun _ => WV.out, fun h_ => absurd h_ (by decide), fun h_ => absurd h_ (by decide)⟩
                · skip
                  clear WV
                  refine steps_cons ?_ ?_
                  · rintro b a w' ⟨n10, ha, Q_WV, Q_WX, Q_WY⟩ hb_ hon hoff
                    refine ⟨_, rfl, fun K hK => ?_⟩
                    have e59 : a.tmps[59]? = some (.pointer (some ⟨gX, 0, none⟩)) := by rw [ha]; exact (putSel_off rfl).trans rfl
                    replace ha := AZ.mk ha
                    have WV := AZ.mk (Q_WV (hoff 10 (by kernel_rfl)))
                    have hc_ : w'.cell? ⟨gX, 0, none⟩ = some (.slice Aq steps.length cq) := (bc WV.out.box 0).trans rfl
                    refine value_ (w1 := w') (v := .agg #[.slice Aq steps.length cq]) (by rfl) rfl ?_ ?_
                    · go_simp
                      (try simp only [i64_w])
                      try rfl
                    refine hK.out _ _ ⟨n10, (by rw [ha.out]; exact putSel_upk 0 hb_ rfl rfl rfl), Q_WV, fun h0_ _ => absurd ((hoff 10 (by kernel_rfl)).symm.trans h0_) (by decide), fun h0_ => absurd ((hoff 13 (by kernel_rfl)).symm.trans h0_) (by decide)⟩
                  refine steps_cons ?_ ?_
                  · rintro b a w' ⟨n10, ha, Q_WV, Q_WX, Q_WY⟩ hb_ hon hoff
                    refine ⟨_, rfl, fun K hK => ?_⟩
                    have e63 : a.tmps[63]? = some (.pointer (some ⟨gX, 2, none⟩)) := by rw [ha]; exact (putSel_off rfl).trans rfl
                    replace ha := AZ.mk ha
                    have WV := AZ.mk (Q_WV (hoff 10 (by kernel_rfl)))
                    have hc_ : w'.cell? ⟨gX, 2, none⟩ = some (.slice AN (fN i).length cN) := (bc WV.out.box 2).trans rfl
                    refine value_ (w1 := w') (v := .slice AN (fN i).length cN) (by rfl) rfl ?_ ?_
                    · go_simp
                      (try simp only [i64_w])
                      try rfl
                    refine hK.out _ _ ⟨n10, (by rw [ha.out]; exact putSel_upk 1 hb_ rfl rfl rfl), Q_WV, fun h0_ _ => absurd ((hoff 10 (by kernel_rfl)).symm.trans h0_) (by decide), fun h0_ => absurd ((hoff 13 (by kernel_rfl)).symm.trans h0_) (by decide)⟩
                  refine steps_cons ?_ ?_
                  · rintro b a w' ⟨n10, ha, Q_WV, Q_WX, Q_WY⟩ hb_ hon hoff
                    refine ⟨_, rfl, fun K hK => ?_⟩
                    have e60 : a.tmps[60]? = some (.agg #[.slice Aq steps.length cq]) := by rw [ha]; exact putSel_on (e := (4, 60, .agg #[.slice Aq steps.length cq])) 0 rfl rfl (hon 4 (by kernel_rfl)) rfl
                    have e64 : a.tmps[64]? = some (.slice AN (fN i).length cN) := by rw [ha]; exact putSel_on (e := (8, 64, .slice AN (fN i).length cN)) 1 rfl rfl (hon 8 (by kernel_rfl)) rfl
                    have e65 : a.tmps[65]? = some (.int .u8 (bt wd (i : Int))) := by rw [ha]; exact (putSel_off rfl).trans rfl
                    replace ha := AZ.mk ha
                    have WV := AZ.mk (Q_WV hb_)
                    refine goes_ Try.func42 (by kernel_rfl) rfl #[.agg #[.slice Aq steps.length cq], .slice AN (fN i).length cN, .int .u8 (bt wd (i : Int))] (by rfl) rfl rfl (by simp only [List.map_toArray, List.map_cons, List.map_nil, eval_of e60, eval_of e64, eval_of e65]) ?_
                    refine (impl_Query_within.calls kq Aq cq steps AN cN (fN i) (bt wd (i : Int)) (fN (i + 1)) _ WV.out.readq LQ.out WV.out.readn LN.out HI.out).mono ?_
                    rintro e w_ ⟨v_, rfl, hr_, hb⟩
                    refine ⟨_, rfl, ?_⟩
                    refine hK.out _ _ ⟨v_, (by rw [ha.out]; exact putSel_upk 2 hb_ rfl rfl rfl), fun h0_ => absurd ((up_self b 10).symm.trans h0_) (by decide), fun _ _ => (WV.out.now_ hb hr_), fun h0_ => absurd ((hoff 13 (by kernel_rfl)).symm.trans h0_) (by decide)⟩
                  refine steps_cons ?_ ?_
                  · rintro b a w' ⟨n10, ha, Q_WV, Q_WX, Q_WY⟩ hb_ hon hoff
                    refine ⟨_, rfl, fun K hK => ?_⟩
                    have e56 : a.tmps[56]? = some (.pointer (some ⟨gX, 0, none⟩)) := by rw [ha]; exact (putSel_off rfl).trans rfl
                    replace ha := AZ.mk ha
                    have WX := AZ.mk (Q_WX (hon 10 (by kernel_rfl)) (hoff 13 (by kernel_rfl)))
                    refine value_ (w1 := w') (v := .pointer (some ⟨gX, 0, none⟩)) (by rfl) rfl ?_ ?_
                    · go_simp
                      (try simp only [i64_w])
                      try rfl
                    refine hK.out _ _ ⟨n10, (by rw [ha.out]; exact putSel_upk 3 hb_ rfl rfl rfl), fun h0_ => absurd ((hon 10 (by kernel_rfl)).symm.trans h0_) (by decide), Q_WX, fun h0_ => absurd ((hoff 13 (by kernel_rfl)).symm.trans h0_) (by decide)⟩
                  refine steps_cons ?_ ?_
                  · rintro b a w' ⟨n10, ha, Q_WV, Q_WX, Q_WY⟩ hb_ hon hoff
                    refine ⟨_, rfl, fun K hK => ?_⟩
                    have e67 : a.tmps[67]? = some (.pointer (some ⟨gX, 0, none⟩)) := by rw [ha]; exact putSel_on (e := (11, 67, .pointer (some ⟨gX, 0, none⟩))) 3 rfl rfl (hon 11 (by kernel_rfl)) rfl
                    replace ha := AZ.mk ha
                    have WX := AZ.mk (Q_WX (hon 10 (by kernel_rfl)) (hoff 13 (by kernel_rfl)))
                    refine value_ (w1 := w') (v := .pointer (some ⟨gX, 2, none⟩)) (by rfl) rfl ?_ ?_
                    · go_simp
                      (try simp only [i64_w])
                      try rfl
                    refine hK.out _ _ ⟨n10, (by rw [ha.out]; exact putSel_upk 4 hb_ rfl rfl rfl), fun h0_ => absurd ((hon 10 (by kernel_rfl)).symm.trans h0_) (by decide), Q_WX, fun h0_ => absurd ((hoff 13 (by kernel_rfl)).symm.trans h0_) (by decide)⟩
                  refine steps_cons ?_ ?_
                  · rintro b a w' ⟨n10, ha, Q_WV, Q_WX, Q_WY⟩ hb_ hon hoff
                    refine ⟨_, rfl, fun K hK => ?_⟩
                    have e68 : a.tmps[68]? = some (.pointer (some ⟨gX, 2, none⟩)) := by rw [ha]; exact putSel_on (e := (12, 68, .pointer (some ⟨gX, 2, none⟩))) 4 rfl rfl (hon 12 (by kernel_rfl)) rfl
                    have e66 : a.tmps[66]? = some (n10) := by rw [ha]; exact putSel_on (e := (10, 66, n10)) 2 rfl rfl (hon 10 (by kernel_rfl)) rfl
                    replace ha := AZ.mk ha
                    have WX := AZ.mk (Q_WX (hon 10 (by kernel_rfl)) hb_)
                    obtain ⟨-, ⟨An_, cn_, hr_, -⟩, -⟩ := WX.out.forms
                    obtain ⟨nn_, hnn_⟩ : ∃ n, n = (fN (i + 1)).length := ⟨_, rfl⟩
                    rw [← hnn_] at hr_
                    clear hnn_
                    subst hr_
                    have hc_ : w'.cell? ⟨gX, 2, none⟩ = some (.slice AN (fN i).length cN) := (bc WX.out.box 2).trans rfl
                    have hf_ := bf WX.out.box 2
                    refine skip_ (w1 := ?_) (by rfl) rfl ?_ ?_
                    rotate_left
                    · go_simp
                      rfl
                    refine hK.out _ _ ⟨(.slice An_ nn_ cn_), (by rw [ha.out]; exact putSel_none (v := undef) rfl), fun h0_ => absurd ((hon 10 (by kernel_rfl)).symm.trans h0_) (by decide), fun _ h1_ => absurd ((up_self b 13).symm.trans h1_) (by decide), fun _ => (WX.out.set 2 _)⟩
                  exact steps_nil
                · rintro b a w' hall ⟨n10, ha, Q_WV, Q_WX, Q_WY⟩
                  clear WV
                  have hb4_ := hall 4 (by kernel_rfl)
                  have hb8_ := hall 8 (by kernel_rfl)
                  have hb10_ := hall 10 (by kernel_rfl)
                  have hb11_ := hall 11 (by kernel_rfl)
                  have hb12_ := hall 12 (by kernel_rfl)
                  have hb13_ := hall 13 (by kernel_rfl)
                  subst ha
                  simp only [putSel, hb4_, hb8_, hb10_, hb11_, hb12_, hb13_, if_true, Act.put, sA, sB, sC]
                  clear Q_WV
                  clear Q_WX
                  have WY := AZ.mk (Q_WY hb13_)
                  clear Q_WY
                  clear hall hb4_ hb8_ hb10_ hb11_ hb12_ hb13_
                  rw [← HK1.out] at WY
                  have WZ := WY
                  clear WY
                  have hc_ : World.cell? _ ⟨gX, 1, none⟩ = some (.int .i64 (i : Int)) := (bc WZ.out.box 1).trans rfl
                  obtain ⟨i1, hi1⟩ : ∃ i1 : Nat, i1 = i + 1 := ⟨_, rfl⟩
                  have hw2 : wrap64 ((i : Int) + 1) = (i1 : Int) := by rw [hi1]; exact wr_ i wd.size HSZ.out (by omega)
                  have hw1 : IntKind.i64.wrap ((i : Int) + 1) = (i1 : Int) := (i64_w _).trans hw2
                  have HI1 := AZ.mk hi1
                  clear hi1
                  go_wp2_with (first | ((with_reducible refine gate_ (.store 2 (.tmp 103) (.tmp 101)) rfl ?_); have hf_ := bf WZ.out.box 1; refine store_event (t := 2) (p := 103) (v := .tmp 101) (w1 := (w'.setCell ⟨gX, 1, none⟩ (.int .i64 (i1 : Int)))) ?hg ?ho ?hn ?hr ?_; (case ho => rfl); (case hg => rfl); (case hn => rfl); (case hr => first | (go_simp; done) | (go_simp; try simp only [i64_w]; try rfl)); intro w9 hw9; clear hc_ hf_; subst hw9; have n0_ := AZ.mk (WZ.out.set 1 (.int .i64 (i1 : Int))); clear WZ; have WZ := n0_; clear n0_))
                  go_roundg (wd.size - (i + 1))
                  case measure => have := HG.out; omega
                  case rel => exact ⟨i1, n10, s10, rfl, ⟨by have := HI1.out; omega⟩, ⟨by rw [← HI1.out] at WZ; exact WZ.out⟩⟩
            · have HC := AZ.mk hc
              have HR := AZ.mk hr
              obtain ⟨m, hm⟩ : ∃ m : Nat, m + 1 = (fK i).length := ⟨(fK i).length - 1, by omega⟩
              have em : (fK i).length - 1 = m := by omega
              rw [em] at hn hk
              have HN1 := AZ.mk hn
              have HK1 := AZ.mk hk
              have HM := AZ.mk hm
              clear em hc hr hn hk
              obtain ⟨gS, vE, rfl, hE, A2, n2, c2, rfl⟩ := WT.out.top hm
              clear hm
              have hgt : decide ((0 : Int) < ((fK i).length : Int)) = true := decide_eq_true (by omega)
              have HE := AZ.mk hE
              clear hE
              go_wp2_with (first | ((with_reducible refine gate_callee (f := 41) rfl ?_); refine goesL_ (some 42) rfl rfl Try.func41 (by kernel_rfl) rfl #[.int .u8 (bt wd (i : Int))] rfl (by (try simp only [List.map_toArray, List.map_cons, List.map_nil]); first | done | rfl) ?_; refine (impl_isCall.calls (bt wd (i : Int)) false _ HC.out).mono ?_; rintro e w42 ⟨rfl, hd⟩; refine ⟨_, rfl, ?_⟩; have n1_ := AZ.mk (rdc hd.below HE.out); have n0_ := AZ.mk (WT.out.below hd.below); clear WT HE hd; have WT := n0_; have HE := n1_; clear n0_ n1_) | ((with_reducible refine gate_callee (f := 43) rfl ?_); refine goesL_ (some 71) rfl rfl Try.func43 (by kernel_rfl) rfl #[.int .u8 (bt wd (i : Int))] rfl (by (try simp only [List.map_toArray, List.map_cons, List.map_nil]); first | done | rfl) ?_; refine (impl_isReturn.calls (bt wd (i : Int)) true _ HR.out).mono ?_; rintro e w71 ⟨rfl, hd⟩; refine ⟨_, rfl, ?_⟩; have n1_ := AZ.mk (rdc hd.below HE.out); have n0_ := AZ.mk (WT.out.below hd.below); clear WT HE hd; have WT := n0_; have HE := n1_; clear n0_ n1_))
              have hw3 : IntKind.i64.wrap (((fK i).length : Int) - 1) = (m : Int) := (i64_w _).trans (wm_ _ m HM.out HK.out)
              have hw4 := wm_ _ m HM.out HK.out
              have p8 := eq_true (show (0 : Int) ≤ (m : Int) by omega)
              have q8 := eq_true (show (m : Int) < ((fK i).length : Int) by have := HM.out; omega)
              have q9 := eq_true (show (m : Int) ≤ (cS : Int) by have := HM.out; have := LS.out; omega)
              have q9n := eq_true (show m ≤ cS by have := HM.out; have := LS.out; omega)
              have q8n := eq_true (show m < (fK i).length by have := HM.out; omega)
              refine start_ (n := 23) (S := fun w' => True) (ds := []) (bz 23 0) (by kernel_rfl) rfl rfl trivial (fun hHeld => ?_)
              refine with_tabW watch.tab12 watch.bits12 (fun HT_ HW_ => ?_)
              have n0_ := AZ.mk (WT.out.drew)
              have n1_ := AZ.mk (rdc (below_drew (Below.refl _ _)) HE.out)
              clear WT HE
              have WT := n0_
              have HE := n1_
              clear n0_ n1_
              generalize World.drew _ = wD at WT HE hHeld ⊢
              refine pure_ (i := 0) (N := some 76) (v := ?_) (a' := ?_) (bz 23 1) rfl rfl (any_of HT_.out (by kernel_rfl)) (fun _ _ _ h => h) (Or.inl ⟨by rfl, ?_⟩) ?_ ?_
              rotate_left
              · intro w'
                go_simp
                with_reducible rfl
              rotate_left
              · simp only [Act.put, sA, sB, sC, i64_w, i32_w]
                rfl
              refine pure_ (i := 1) (N := some 77) (v := ?_) (a' := ?_) (bz 23 3) rfl rfl (any_of HT_.out (by kernel_rfl)) (fun _ _ _ h => h) (Or.inl ⟨by rfl, ?_⟩) ?_ ?_
              rotate_left
              · intro w'
                go_simp
                with_reducible rfl
              rotate_left
              · simp only [Act.put, sA, sB, sC, i64_w, i32_w]
                rfl
              refine pure_ (i := 2) (N := some 78) (v := ?_) (a' := ?_) (bz 23 7) rfl rfl (any_of HT_.out (by kernel_rfl)) (fun _ _ _ h => h) (Or.inl ⟨by rfl, ?_⟩) ?_ ?_
              rotate_left
              · intro w'
                go_simp
                with_reducible rfl
              rotate_left
              · simp only [Act.put, sA, sB, sC, i64_w, i32_w]
                rfl
              refine pure_ (i := 3) (N := some 79) (v := ?_) (a' := ?_) (bz 23 15) rfl rfl (any_of HT_.out (by kernel_rfl)) (fun _ _ _ h => h) (Or.inl ⟨by rfl, ?_⟩) ?_ ?_
              rotate_left
              · intro w'
                go_simp
                with_reducible rfl
              rotate_left
              · simp only [Act.put, sA, sB, sC, i64_w, i32_w]
                rfl
              refine pure_ (i := 4) (N := some 80) (v := ?_) (a' := ?_) (bz 23 31) rfl rfl (any_of HT_.out (by kernel_rfl)) (fun _ _ _ h => h) (Or.inl ⟨by rfl, ?_⟩) ?_ ?_
              rotate_left
              · intro w'
                go_simp
                with_reducible rfl
              rotate_left
              · simp only [Act.put, sA, sB, sC, i64_w, i32_w]
                rfl
              refine pure_ (i := 6) (N := some 82) (v := ?_) (a' := ?_) (bz 23 95) rfl rfl (any_of HT_.out (by kernel_rfl)) (fun _ _ _ h => h) (Or.inl ⟨by rfl, ?_⟩) ?_ ?_
              rotate_left
              · intro w'
                go_simp
                with_reducible rfl
              rotate_left
              · simp only [Act.put, sA, sB, sC, i64_w, i32_w]
                rfl
              refine pure_ (i := 10) (N := some 86) (v := ?_) (a' := ?_) (bz 23 1119) rfl rfl (any_of HT_.out (by kernel_rfl)) (fun _ _ _ h => h) (Or.inl ⟨by rfl, ?_⟩) ?_ ?_
              rotate_left
              · intro w'
                go_simp
                with_reducible rfl
              rotate_left
              · simp only [Act.put, sA, sB, sC, i64_w, i32_w]
                rfl
              refine pure_ (i := 11) (N := some 87) (v := ?_) (a' := ?_) (bz 23 3167) rfl rfl (any_of HT_.out (by kernel_rfl)) (fun _ _ _ h => h) (Or.inl ⟨by rfl, ?_⟩) ?_ ?_
              rotate_left
              · intro w'
                go_simp
                with_reducible rfl
              rotate_left
              · simp only [Act.put, sA, sB, sC, i64_w, i32_w]
                rfl
              refine pure_ (i := 12) (N := some 88) (v := ?_) (a' := ?_) (bz 23 7263) rfl rfl (any_of HT_.out (by kernel_rfl)) (fun _ _ _ h => h) (Or.inl ⟨by rfl, ?_⟩) ?_ ?_
              rotate_left
              · intro w'
                go_simp
                with_reducible rfl
              rotate_left
              · simp only [Act.put, sA, sB, sC, i64_w, i32_w]
                rfl
              refine pure_ (i := 14) (N := some 90) (v := ?_) (a' := ?_) (bz 23 23647) rfl rfl (any_of HT_.out (by kernel_rfl)) (fun _ _ _ h => h) (Or.inl ⟨by rfl, ?_⟩) ?_ ?_
              rotate_left
              · intro w'
                go_simp
                with_reducible rfl
              rotate_left
              · simp only [Act.put, sA, sB, sC, i64_w, i32_w]
                rfl
              refine inv_at [5, 7, 8, 9, 13, 15, 16, 17, 18, 19, 20, 21, 22] (fun a0_ b a w' => a = putSel a0_ b [(5, 81, .slice (some ⟨gS, 0, none⟩) (fK i).length cS), (7, 83, .int .i64 (m : Int)), (8, 84, .pointer (some ⟨gS, m, none⟩)), (9, 85, .slice A2 n2 c2), (13, 89, .slice (some ⟨gS, 0, none⟩) (fK i).length cS), (15, 91, .int .i64 (m : Int)), (16, 92, .slice (some ⟨gS, 0, none⟩) m cS), (17, 93, .pointer (some ⟨gX, 0, none⟩)), (18, 94, .pointer (some ⟨gX, 2, none⟩)), (20, 95, .pointer (some ⟨gX, 0, none⟩)), (21, 96, .pointer (some ⟨gX, 3, none⟩))] ∧ (b 19 = false → Wt k62 2 34 62 51 w0 w' B gX #[.slice Aq steps.length cq, .int .i64 (i : Int), .slice AN (fN i).length cN, .slice (some ⟨gS, 0, none⟩) (fK i).length cS] (.slice Aq steps.length cq) (.slice AN (fN i).length cN) (.slice (some ⟨gS, 0, none⟩) (fK i).length cS) u5 steps (fN i) (fK i) (fO (i + 1))) ∧ (b 19 = false → w'.cell? ⟨gS, m, none⟩ = some (.slice A2 n2 c2)) ∧ (b 19 = true → b 22 = false → Wt k62 2 34 62 51 w0 w' B gX #[.slice Aq steps.length cq, .int .i64 (i : Int), .slice A2 n2 c2, .slice (some ⟨gS, 0, none⟩) (fK i).length cS] (.slice Aq steps.length cq) (.slice A2 n2 c2) (.slice (some ⟨gS, 0, none⟩) m cS) u5 steps (fN (i + 1)) (fK (i + 1)) (fO (i + 1))) ∧ (b 22 = true → Wt k62 2 34 62 51 w0 w' B gX #[.slice Aq steps.length cq, .int .i64 (i : Int), .slice A2 n2 c2, .slice (some ⟨gS, 0, none⟩) m cS] (.slice Aq steps.length cq) (.slice A2 n2 c2) (.slice (some ⟨gS, 0, none⟩) m cS) u5 steps (fN (i + 1)) (fK (i + 1)) (fO (i + 1)))) HT_.out HW_.out (by kernel_rfl) (by kernel_rfl) ?_ ?_ ?_
              · exact ⟨by simp only [putSel, Bool.false_eq_true, if_false], fun _ => WT.out, fun _ => HE.out, fun h_ => absurd h_ (by decide), fun h_ => absurd h_ (by decide)⟩
              · skip
                clear HE WT
                refine steps_cons ?_ ?_
                · rintro b a w' ⟨ha, Q_WT, Q_HE, Q_WX, Q_WY⟩ hb_ hon hoff
                  refine ⟨_, rfl, fun K hK => ?_⟩
                  have e80 : a.tmps[80]? = some (.pointer (some ⟨gX, 3, none⟩)) := by rw [ha]; exact (putSel_off rfl).trans rfl
                  replace ha := AZ.mk ha
                  have WT := AZ.mk (Q_WT (hoff 19 (by kernel_rfl)))
                  have HE := AZ.mk (Q_HE (hoff 19 (by kernel_rfl)))
                  have hc_ : w'.cell? ⟨gX, 3, none⟩ = some (.slice (some ⟨gS, 0, none⟩) (fK i).length cS) := (bc WT.out.box 3).trans rfl
                  refine value_ (w1 := w') (v := .slice (some ⟨gS, 0, none⟩) (fK i).length cS) (by rfl) rfl ?_ ?_
                  · go_simp
                    (try simp only [i64_w])
                    try rfl
                  refine hK.out _ _ ⟨(by rw [ha.out]; exact putSel_upk 0 hb_ rfl rfl rfl), Q_WT, Q_HE, fun h0_ _ => absurd ((hoff 19 (by kernel_rfl)).symm.trans h0_) (by decide), fun h0_ => absurd ((hoff 22 (by kernel_rfl)).symm.trans h0_) (by decide)⟩
                refine steps_cons ?_ ?_
                · rintro b a w' ⟨ha, Q_WT, Q_HE, Q_WX, Q_WY⟩ hb_ hon hoff
                  refine ⟨_, rfl, fun K hK => ?_⟩
                  have e82 : a.tmps[82]? = some (.int .i64 ((fK i).length : Int)) := by rw [ha]; exact (putSel_off rfl).trans rfl
                  replace ha := AZ.mk ha
                  have WT := AZ.mk (Q_WT (hoff 19 (by kernel_rfl)))
                  have HE := AZ.mk (Q_HE (hoff 19 (by kernel_rfl)))
                  refine value_ (w1 := w') (v := .int .i64 (m : Int)) (by rfl) rfl ?_ ?_
                  · go_simp
                    (try simp only [i64_w])
                    try rfl
                  refine hK.out _ _ ⟨(by rw [ha.out]; exact putSel_upk 1 hb_ rfl rfl rfl), Q_WT, Q_HE, fun h0_ _ => absurd ((hoff 19 (by kernel_rfl)).symm.trans h0_) (by decide), fun h0_ => absurd ((hoff 22 (by kernel_rfl)).symm.trans h0_) (by decide)⟩
                refine steps_cons ?_ ?_
                · rintro b a w' ⟨ha, Q_WT, Q_HE, Q_WX, Q_WY⟩ hb_ hon hoff
                  refine ⟨_, rfl, fun K hK => ?_⟩
                  have e81 : a.tmps[81]? = some (.slice (some ⟨gS, 0, none⟩) (fK i).length cS) := by rw [ha]; exact putSel_on (e := (5, 81, .slice (some ⟨gS, 0, none⟩) (fK i).length cS)) 0 rfl rfl (hon 5 (by kernel_rfl)) rfl
                  have e83 : a.tmps[83]? = some (.int .i64 (m : Int)) := by rw [ha]; exact putSel_on (e := (7, 83, .int .i64 (m : Int))) 1 rfl rfl (hon 7 (by kernel_rfl)) rfl
                  replace ha := AZ.mk ha
                  have WT := AZ.mk (Q_WT (hoff 19 (by kernel_rfl)))
                  have HE := AZ.mk (Q_HE (hoff 19 (by kernel_rfl)))
                  refine value_ (w1 := w') (v := .pointer (some ⟨gS, m, none⟩)) (by rfl) rfl ?_ ?_
                  · go_simp
                    (try simp only [i64_w])
                    try rfl
                  refine hK.out _ _ ⟨(by rw [ha.out]; exact putSel_upk 2 hb_ rfl rfl rfl), Q_WT, Q_HE, fun h0_ _ => absurd ((hoff 19 (by kernel_rfl)).symm.trans h0_) (by decide), fun h0_ => absurd ((hoff 22 (by kernel_rfl)).symm.trans h0_) (by decide)⟩
                refine steps_cons ?_ ?_
                · rintro b a w' ⟨ha, Q_WT, Q_HE, Q_WX, Q_WY⟩ hb_ hon hoff
                  refine ⟨_, rfl, fun K hK => ?_⟩
                  have e84 : a.tmps[84]? = some (.pointer (some ⟨gS, m, none⟩)) := by rw [ha]; exact putSel_on (e := (8, 84, .pointer (some ⟨gS, m, none⟩))) 2 rfl rfl (hon 8 (by kernel_rfl)) rfl
                  replace ha := AZ.mk ha
                  have WT := AZ.mk (Q_WT (hoff 19 (by kernel_rfl)))
                  have HE := AZ.mk (Q_HE (hoff 19 (by kernel_rfl)))
                  have hc_ := HE.out
                  refine value_ (w1 := w') (v := .slice A2 n2 c2) (by rfl) rfl ?_ ?_
                  · go_simp
                    (try simp only [i64_w])
                    try rfl
                  refine hK.out _ _ ⟨(by rw [ha.out]; exact putSel_upk 3 hb_ rfl rfl rfl), Q_WT, Q_HE, fun h0_ _ => absurd ((hoff 19 (by kernel_rfl)).symm.trans h0_) (by decide), fun h0_ => absurd ((hoff 22 (by kernel_rfl)).symm.trans h0_) (by decide)⟩
                refine steps_cons ?_ ?_
                · rintro b a w' ⟨ha, Q_WT, Q_HE, Q_WX, Q_WY⟩ hb_ hon hoff
                  refine ⟨_, rfl, fun K hK => ?_⟩
                  have e88 : a.tmps[88]? = some (.pointer (some ⟨gX, 3, none⟩)) := by rw [ha]; exact (putSel_off rfl).trans rfl
                  replace ha := AZ.mk ha
                  have WT := AZ.mk (Q_WT (hoff 19 (by kernel_rfl)))
                  have HE := AZ.mk (Q_HE (hoff 19 (by kernel_rfl)))
                  have hc_ : w'.cell? ⟨gX, 3, none⟩ = some (.slice (some ⟨gS, 0, none⟩) (fK i).length cS) := (bc WT.out.box 3).trans rfl
                  refine value_ (w1 := w') (v := .slice (some ⟨gS, 0, none⟩) (fK i).length cS) (by rfl) rfl ?_ ?_
                  · go_simp
                    (try simp only [i64_w])
                    try rfl
                  refine hK.out _ _ ⟨(by rw [ha.out]; exact putSel_upk 4 hb_ rfl rfl rfl), Q_WT, Q_HE, fun h0_ _ => absurd ((hoff 19 (by kernel_rfl)).symm.trans h0_) (by decide), fun h0_ => absurd ((hoff 22 (by kernel_rfl)).symm.trans h0_) (by decide)⟩
                refine steps_cons ?_ ?_
                · rintro b a w' ⟨ha, Q_WT, Q_HE, Q_WX, Q_WY⟩ hb_ hon hoff
                  refine ⟨_, rfl, fun K hK => ?_⟩
                  have e90 : a.tmps[90]? = some (.int .i64 ((fK i).length : Int)) := by rw [ha]; exact (putSel_off rfl).trans rfl
                  replace ha := AZ.mk ha
                  refine value_ (w1 := w') (v := .int .i64 (m : Int)) (by rfl) rfl ?_ ?_
                  · go_simp
                    (try simp only [i64_w])
                    try rfl
                  refine hK.out _ _ ⟨(by rw [ha.out]; exact putSel_upk 5 hb_ rfl rfl rfl), Q_WT, Q_HE, Q_WX, fun h0_ => absurd ((hoff 22 (by kernel_rfl)).symm.trans h0_) (by decide)⟩
                refine steps_cons ?_ ?_
                · rintro b a w' ⟨ha, Q_WT, Q_HE, Q_WX, Q_WY⟩ hb_ hon hoff
                  refine ⟨_, rfl, fun K hK => ?_⟩
                  have e89 : a.tmps[89]? = some (.slice (some ⟨gS, 0, none⟩) (fK i).length cS) := by rw [ha]; exact putSel_on (e := (13, 89, .slice (some ⟨gS, 0, none⟩) (fK i).length cS)) 4 rfl rfl (hon 13 (by kernel_rfl)) rfl
                  have e91 : a.tmps[91]? = some (.int .i64 (m : Int)) := by rw [ha]; exact putSel_on (e := (15, 91, .int .i64 (m : Int))) 5 rfl rfl (hon 15 (by kernel_rfl)) rfl
                  replace ha := AZ.mk ha
                  refine value_ (w1 := w') (v := .slice (some ⟨gS, 0, none⟩) m cS) (by rfl) rfl ?_ ?_
                  · go_simp
                    (try simp only [i64_w])
                    try rfl
                  refine hK.out _ _ ⟨(by rw [ha.out]; exact putSel_upk 6 hb_ rfl rfl rfl), Q_WT, Q_HE, Q_WX, fun h0_ => absurd ((hoff 22 (by kernel_rfl)).symm.trans h0_) (by decide)⟩
                refine steps_cons ?_ ?_
                · rintro b a w' ⟨ha, Q_WT, Q_HE, Q_WX, Q_WY⟩ hb_ hon hoff
                  refine ⟨_, rfl, fun K hK => ?_⟩
                  have e76 : a.tmps[76]? = some (.pointer (some ⟨gX, 0, none⟩)) := by rw [ha]; exact (putSel_off rfl).trans rfl
                  replace ha := AZ.mk ha
                  have WT := AZ.mk (Q_WT (hoff 19 (by kernel_rfl)))
                  have HE := AZ.mk (Q_HE (hoff 19 (by kernel_rfl)))
                  refine value_ (w1 := w') (v := .pointer (some ⟨gX, 0, none⟩)) (by rfl) rfl ?_ ?_
                  · go_simp
                    (try simp only [i64_w])
                    try rfl
                  refine hK.out _ _ ⟨(by rw [ha.out]; exact putSel_upk 7 hb_ rfl rfl rfl), Q_WT, Q_HE, fun h0_ _ => absurd ((hoff 19 (by kernel_rfl)).symm.trans h0_) (by decide), fun h0_ => absurd ((hoff 22 (by kernel_rfl)).symm.trans h0_) (by decide)⟩
                refine steps_cons ?_ ?_
                · rintro b a w' ⟨ha, Q_WT, Q_HE, Q_WX, Q_WY⟩ hb_ hon hoff
                  refine ⟨_, rfl, fun K hK => ?_⟩
                  have e93 : a.tmps[93]? = some (.pointer (some ⟨gX, 0, none⟩)) := by rw [ha]; exact putSel_on (e := (17, 93, .pointer (some ⟨gX, 0, none⟩))) 7 rfl rfl (hon 17 (by kernel_rfl)) rfl
                  replace ha := AZ.mk ha
                  have WT := AZ.mk (Q_WT (hoff 19 (by kernel_rfl)))
                  have HE := AZ.mk (Q_HE (hoff 19 (by kernel_rfl)))
                  refine value_ (w1 := w') (v := .pointer (some ⟨gX, 2, none⟩)) (by rfl) rfl ?_ ?_
                  · go_simp
                    (try simp only [i64_w])
                    try rfl
                  refine hK.out _ _ ⟨(by rw [ha.out]; exact putSel_upk 8 hb_ rfl rfl rfl), Q_WT, Q_HE, fun h0_ _ => absurd ((hoff 19 (by kernel_rfl)).symm.trans h0_) (by decide), fun h0_ => absurd ((hoff 22 (by kernel_rfl)).symm.trans h0_) (by decide)⟩
                refine steps_cons ?_ ?_
                · rintro b a w' ⟨ha, Q_WT, Q_HE, Q_WX, Q_WY⟩ hb_ hon hoff
                  refine ⟨_, rfl, fun K hK => ?_⟩
                  have e94 : a.tmps[94]? = some (.pointer (some ⟨gX, 2, none⟩)) := by rw [ha]; exact putSel_on (e := (18, 94, .pointer (some ⟨gX, 2, none⟩))) 8 rfl rfl (hon 18 (by kernel_rfl)) rfl
                  have e85 : a.tmps[85]? = some (.slice A2 n2 c2) := by rw [ha]; exact putSel_on (e := (9, 85, .slice A2 n2 c2)) 3 rfl rfl (hon 9 (by kernel_rfl)) rfl
                  replace ha := AZ.mk ha
                  have WT := AZ.mk (Q_WT hb_)
                  have HE := AZ.mk (Q_HE hb_)
                  have hc_ : w'.cell? ⟨gX, 2, none⟩ = some (.slice AN (fN i).length cN) := (bc WT.out.box 2).trans rfl
                  have hf_ := bf WT.out.box 2
                  refine skip_ (w1 := ?_) (by rfl) rfl ?_ ?_
                  rotate_left
                  · go_simp
                    rfl
                  refine hK.out _ _ ⟨(by rw [ha.out]; exact putSel_none (v := undef) rfl), fun h0_ => absurd ((up_self b 19).symm.trans h0_) (by decide), fun h0_ => absurd ((up_self b 19).symm.trans h0_) (by decide), fun _ _ => (by have h9 := (WT.out.pop HM.out HE.out).set 2 (.slice A2 n2 c2); rw [HN1.out, HK1.out]; exact h9), fun h0_ => absurd ((hoff 22 (by kernel_rfl)).symm.trans h0_) (by decide)⟩
                refine steps_cons ?_ ?_
                · rintro b a w' ⟨ha, Q_WT, Q_HE, Q_WX, Q_WY⟩ hb_ hon hoff
                  refine ⟨_, rfl, fun K hK => ?_⟩
                  have e77 : a.tmps[77]? = some (.pointer (some ⟨gX, 0, none⟩)) := by rw [ha]; exact (putSel_off rfl).trans rfl
                  replace ha := AZ.mk ha
                  have WX := AZ.mk (Q_WX (hon 19 (by kernel_rfl)) (hoff 22 (by kernel_rfl)))
                  refine value_ (w1 := w') (v := .pointer (some ⟨gX, 0, none⟩)) (by rfl) rfl ?_ ?_
                  · go_simp
                    (try simp only [i64_w])
                    try rfl
                  refine hK.out _ _ ⟨(by rw [ha.out]; exact putSel_upk 9 hb_ rfl rfl rfl), fun h0_ => absurd ((hon 19 (by kernel_rfl)).symm.trans h0_) (by decide), fun h0_ => absurd ((hon 19 (by kernel_rfl)).symm.trans h0_) (by decide), Q_WX, fun h0_ => absurd ((hoff 22 (by kernel_rfl)).symm.trans h0_) (by decide)⟩
                refine steps_cons ?_ ?_
                · rintro b a w' ⟨ha, Q_WT, Q_HE, Q_WX, Q_WY⟩ hb_ hon hoff
                  refine ⟨_, rfl, fun K hK => ?_⟩
                  have e95 : a.tmps[95]? = some (.pointer (some ⟨gX, 0, none⟩)) := by rw [ha]; exact putSel_on (e := (20, 95, .pointer (some ⟨gX, 0, none⟩))) 9 rfl rfl (hon 20 (by kernel_rfl)) rfl
                  replace ha := AZ.mk ha
                  have WX := AZ.mk (Q_WX (hon 19 (by kernel_rfl)) (hoff 22 (by kernel_rfl)))
                  refine value_ (w1 := w') (v := .pointer (some ⟨gX, 3, none⟩)) (by rfl) rfl ?_ ?_
                  · go_simp
                    (try simp only [i64_w])
                    try rfl
                  refine hK.out _ _ ⟨(by rw [ha.out]; exact putSel_upk 10 hb_ rfl rfl rfl), fun h0_ => absurd ((hon 19 (by kernel_rfl)).symm.trans h0_) (by decide), fun h0_ => absurd ((hon 19 (by kernel_rfl)).symm.trans h0_) (by decide), Q_WX, fun h0_ => absurd ((hoff 22 (by kernel_rfl)).symm.trans h0_) (by decide)⟩
                refine steps_cons ?_ ?_
                · rintro b a w' ⟨ha, Q_WT, Q_HE, Q_WX, Q_WY⟩ hb_ hon hoff
                  refine ⟨_, rfl, fun K hK => ?_⟩
                  have e96 : a.tmps[96]? = some (.pointer (some ⟨gX, 3, none⟩)) := by rw [ha]; exact putSel_on (e := (21, 96, .pointer (some ⟨gX, 3, none⟩))) 10 rfl rfl (hon 21 (by kernel_rfl)) rfl
                  have e92 : a.tmps[92]? = some (.slice (some ⟨gS, 0, none⟩) m cS) := by rw [ha]; exact putSel_on (e := (16, 92, .slice (some ⟨gS, 0, none⟩) m cS)) 6 rfl rfl (hon 16 (by kernel_rfl)) rfl
                  replace ha := AZ.mk ha
                  have WX := AZ.mk (Q_WX (hon 19 (by kernel_rfl)) hb_)
                  have hc_ : w'.cell? ⟨gX, 3, none⟩ = some (.slice (some ⟨gS, 0, none⟩) (fK i).length cS) := (bc WX.out.box 3).trans rfl
                  have hf_ := bf WX.out.box 3
                  refine skip_ (w1 := ?_) (by rfl) rfl ?_ ?_
                  rotate_left
                  · go_simp
                    rfl
                  refine hK.out _ _ ⟨(by rw [ha.out]; exact putSel_none (v := undef) rfl), fun h0_ => absurd ((hon 19 (by kernel_rfl)).symm.trans h0_) (by decide), fun h0_ => absurd ((hon 19 (by kernel_rfl)).symm.trans h0_) (by decide), fun _ h1_ => absurd ((up_self b 22).symm.trans h1_) (by decide), fun _ => (WX.out.set 3 _)⟩
                exact steps_nil
              · rintro b a w' hall ⟨ha, Q_WT, Q_HE, Q_WX, Q_WY⟩
                clear HE WT
                have hb5_ := hall 5 (by kernel_rfl)
                have hb7_ := hall 7 (by kernel_rfl)
                have hb8_ := hall 8 (by kernel_rfl)
                have hb9_ := hall 9 (by kernel_rfl)
                have hb13_ := hall 13 (by kernel_rfl)
                have hb15_ := hall 15 (by kernel_rfl)
                have hb16_ := hall 16 (by kernel_rfl)
                have hb17_ := hall 17 (by kernel_rfl)
                have hb18_ := hall 18 (by kernel_rfl)
                have hb19_ := hall 19 (by kernel_rfl)
                have hb20_ := hall 20 (by kernel_rfl)
                have hb21_ := hall 21 (by kernel_rfl)
                have hb22_ := hall 22 (by kernel_rfl)
                subst ha
                simp only [putSel, hb5_, hb7_, hb8_, hb9_, hb13_, hb15_, hb16_, hb17_, hb18_, hb19_, hb20_, hb21_, hb22_, if_true, Act.put, sA, sB, sC]
                clear Q_WT
                clear Q_HE
                clear Q_WX
                have WY := AZ.mk (Q_WY hb22_)
                clear Q_WY
                clear hall hb5_ hb7_ hb8_ hb9_ hb13_ hb15_ hb16_ hb17_ hb18_ hb19_ hb20_ hb21_ hb22_
                clear p8 q8 q9 q9n q8n hw3 hw4
                have WZ := WY
                clear WY
                have hc_ : World.cell? _ ⟨gX, 1, none⟩ = some (.int .i64 (i : Int)) := (bc WZ.out.box 1).trans rfl
                obtain ⟨i1, hi1⟩ : ∃ i1 : Nat, i1 = i + 1 := ⟨_, rfl⟩
                have hw2 : wrap64 ((i : Int) + 1) = (i1 : Int) := by rw [hi1]; exact wr_ i wd.size HSZ.out (by omega)
                have hw1 : IntKind.i64.wrap ((i : Int) + 1) = (i1 : Int) := (i64_w _).trans hw2
                have HI1 := AZ.mk hi1
                clear hi1
                go_wp2_with (first | ((with_reducible refine gate_ (.store 2 (.tmp 103) (.tmp 101)) rfl ?_); have hf_ := bf WZ.out.box 1; refine store_event (t := 2) (p := 103) (v := .tmp 101) (w1 := (w'.setCell ⟨gX, 1, none⟩ (.int .i64 (i1 : Int)))) ?hg ?ho ?hn ?hr ?_; (case ho => rfl); (case hg => rfl); (case hn => rfl); (case hr => first | (go_simp; done) | (go_simp; try simp only [i64_w]; try rfl)); intro w9 hw9; clear hc_ hf_; subst hw9; have n0_ := AZ.mk (WZ.out.set 1 (.int .i64 (i1 : Int))); clear WZ; have WZ := n0_; clear n0_))
                go_roundg (wd.size - (i + 1))
                case measure => have := HG.out; omega
                case rel => exact ⟨i1, (.slice A2 n2 c2), (.slice (some ⟨gS, 0, none⟩) m cS), rfl, ⟨by have := HI1.out; omega⟩, ⟨by rw [← HI1.out] at WZ; exact WZ.out⟩⟩
            · have HC := AZ.mk hc
              have HR := AZ.mk hr
              have HN1 := AZ.mk hn
              have HK1 := AZ.mk hk
              rw [← hn, ← hk] at WT
              clear hc hr hn hk
              have hgt : decide ((0 : Int) < ((fK i).length : Int)) = false := decide_eq_false (by omega)
              have hgt2 : decide (0 < (fK i).length) = false := decide_eq_false (by omega)
              have hgt3 := eq_false (show ¬ 0 < (fK i).length by omega)
              clear hl
              obtain ⟨i1, hi1⟩ : ∃ i1 : Nat, i1 = i + 1 := ⟨_, rfl⟩
              have hw2 : wrap64 ((i : Int) + 1) = (i1 : Int) := by rw [hi1]; exact wr_ i wd.size HSZ.out (by omega)
              have hw1 : IntKind.i64.wrap ((i : Int) + 1) = (i1 : Int) := (i64_w _).trans hw2
              have HI1 := AZ.mk hi1
              clear hi1
              go_wp2_with (first | ((with_reducible refine gate_callee (f := 41) rfl ?_); refine goesL_ (some 42) rfl rfl Try.func41 (by kernel_rfl) rfl #[.int .u8 (bt wd (i : Int))] rfl (by (try simp only [List.map_toArray, List.map_cons, List.map_nil]); first | done | rfl) ?_; refine (impl_isCall.calls (bt wd (i : Int)) false _ HC.out).mono ?_; rintro e w42 ⟨rfl, hd⟩; refine ⟨_, rfl, ?_⟩; have n0_ := AZ.mk (WT.out.below hd.below); clear WT hd; have WT := n0_; clear n0_) | ((with_reducible refine gate_callee (f := 43) rfl ?_); refine goesL_ (some 71) rfl rfl Try.func43 (by kernel_rfl) rfl #[.int .u8 (bt wd (i : Int))] rfl (by (try simp only [List.map_toArray, List.map_cons, List.map_nil]); first | done | rfl) ?_; refine (impl_isReturn.calls (bt wd (i : Int)) true _ HR.out).mono ?_; rintro e w71 ⟨rfl, hd⟩; refine ⟨_, rfl, ?_⟩; have n0_ := AZ.mk (WT.out.below hd.below); clear WT hd; have WT := n0_; clear n0_; have hc_ := (bc WT.out.box 1).trans rfl) | ((with_reducible refine gate_ (.store 2 (.tmp 103) (.tmp 101)) rfl ?_); have hf_ := bf WT.out.box 1; refine store_event (t := 2) (p := 103) (v := .tmp 101) (w1 := (w71.setCell ⟨gX, 1, none⟩ (.int .i64 (i1 : Int)))) ?hg ?ho ?hn ?hr ?_; (case ho => rfl); (case hg => rfl); (case hn => rfl); (case hr => first | (go_simp; done) | (go_simp; try simp only [i64_w]; try rfl)); intro w9 hw9; clear hc_ hf_; subst hw9; have n0_ := AZ.mk (WT.out.set 1 (.int .i64 (i1 : Int))); clear WT; have WT := n0_; clear n0_))
              go_roundg (wd.size - (i + 1))
              case measure => have := HG.out; omega
              case rel => exact ⟨i1, (.slice AN (fN i1).length cN), (.slice AS (fK i1).length cS), rfl, ⟨by have := HI1.out; omega⟩, ⟨by rw [← HI1.out] at WT; exact WT.out⟩⟩
            · have HC := AZ.mk hc
              have HR := AZ.mk hr
              have HN1 := AZ.mk hn
              have HK1 := AZ.mk hk
              rw [← hn, ← hk] at WT
              clear hc hr hn hk
              obtain ⟨i1, hi1⟩ : ∃ i1 : Nat, i1 = i + 1 := ⟨_, rfl⟩
              have hw2 : wrap64 ((i : Int) + 1) = (i1 : Int) := by rw [hi1]; exact wr_ i wd.size HSZ.out (by omega)
              have hw1 : IntKind.i64.wrap ((i : Int) + 1) = (i1 : Int) := (i64_w _).trans hw2
              have HI1 := AZ.mk hi1
              clear hi1
              go_wp2_with (first | ((with_reducible refine gate_callee (f := 41) rfl ?_); refine goesL_ (some 42) rfl rfl Try.func41 (by kernel_rfl) rfl #[.int .u8 (bt wd (i : Int))] rfl (by (try simp only [List.map_toArray, List.map_cons, List.map_nil]); first | done | rfl) ?_; refine (impl_isCall.calls (bt wd (i : Int)) false _ HC.out).mono ?_; rintro e w42 ⟨rfl, hd⟩; refine ⟨_, rfl, ?_⟩; have n0_ := AZ.mk (WT.out.below hd.below); clear WT hd; have WT := n0_; clear n0_) | ((with_reducible refine gate_callee (f := 43) rfl ?_); refine goesL_ (some 71) rfl rfl Try.func43 (by kernel_rfl) rfl #[.int .u8 (bt wd (i : Int))] rfl (by (try simp only [List.map_toArray, List.map_cons, List.map_nil]); first | done | rfl) ?_; refine (impl_isReturn.calls (bt wd (i : Int)) false _ HR.out).mono ?_; rintro e w71 ⟨rfl, hd⟩; refine ⟨_, rfl, ?_⟩; have n0_ := AZ.mk (WT.out.below hd.below); clear WT hd; have WT := n0_; clear n0_; have hc_ := (bc WT.out.box 1).trans rfl) | ((with_reducible refine gate_ (.store 2 (.tmp 103) (.tmp 101)) rfl ?_); have hf_ := bf WT.out.box 1; refine store_event (t := 2) (p := 103) (v := .tmp 101) (w1 := (w71.setCell ⟨gX, 1, none⟩ (.int .i64 (i1 : Int)))) ?hg ?ho ?hn ?hr ?_; (case ho => rfl); (case hg => rfl); (case hn => rfl); (case hr => first | (go_simp; done) | (go_simp; try simp only [i64_w]; try rfl)); intro w9 hw9; clear hc_ hf_; subst hw9; have n0_ := AZ.mk (WT.out.set 1 (.int .i64 (i1 : Int))); clear WT; have WT := n0_; clear n0_))
              go_roundg (wd.size - (i + 1))
              case measure => have := HG.out; omega
              case rel => exact ⟨i1, (.slice AN (fN i1).length cN), (.slice AS (fK i1).length cS), rfl, ⟨by have := HI1.out; omega⟩, ⟨by rw [← HI1.out] at WT; exact WT.out⟩⟩
    · have c13 : decide ((i : Int) < (wd.size : Int)) = false := decide_eq_false (by omega)
      have e9 : i = wd.size := by have := HG.out; omega
      subst e9
      obtain ⟨hB_, hg_, hX_, f_, h3_, ho_, hrest_⟩ := WT.out
      go_wp2
      go_ret
      exact ⟨_, rfl, ⟨_, ho_⟩, hB_⟩
end Go.Proofs.Yteeplponconnjaa.P
namespace Go.Proofs.Yteeplponconnjaa.P
open Go.RowKit Go.Proofs.YteeplponconnjaaW.PrintWords Go.Proofs.YteeplponconnjaaW.PrintLast Go.Proofs.YteeplponconnjaaW.PrintMore
attribute [local go_sem] max2_int min2_int max_two min_two max_three min_three max_four min_four
set_option linter.unusedVariables false
set_option linter.unusedSimpArgs false
def impl_within.f (a0 : Int) (a1 : Int) (a2 : Int) : Option (Bool) := if a0 ≥ a1 then (some (decide (a0 ≤ a2))) else (some false)
set_option maxHeartbeats 8000000 in
set_option maxRecDepth 100000 in
theorem impl_within.calls (a0 : Int) (a1 : Int) (a2 : Int) (r : Bool) (w : World) (h : impl_within.f a0 a1 a2 = some r) :
  Calls Try.prog 33 #[.int .i64 a0, .int .i64 a1, .int .i64 a2] w fun e w' => e = .returned (.bool r) ∧ Drawn0 w w' := by
 have H : (if a0 ≥ a1 then (some (decide (a0 ≤ a2))) else (some false)) = some r := h
 clear h
 by_cases c4 : a0 ≥ a1
 ·rw [if_pos c4] at H
  have c4b0 : decide (a1 ≤ a0) = true := decide_eq_true c4
  clear c4
  obtain rfl := Option.some.inj H
  go_enter Try.func33, Try.ntmps33
  go_wp2
  go_ret
  exact ⟨by first | rfl | (simp; done) | (simp [*]; done), by repeat (first | exact Drawn0.refl _ | apply Drawn0.step)⟩
 rw [if_neg c4] at H
 have c4b0 : decide (a1 ≤ a0) = false := decide_eq_false c4
 clear c4
 obtain rfl := Option.some.inj H
 go_enter Try.func33, Try.ntmps33
 go_wp2
 go_ret
 exact ⟨by first | rfl | (simp; done) | (simp [*]; done), by repeat (first | exact Drawn0.refl _ | apply Drawn0.step)⟩
end Go.Proofs.Yteeplponconnjaa.P
namespace Go.Proofs.Yteeplponconnjaa.P
open Go.RowKit Go.Proofs.YteeplponconnjaaW.PrintWords Go.Proofs.YteeplponconnjaaW.PrintLast Go.Proofs.YteeplponconnjaaW.PrintMore
attribute [local go_sem] max2_int min2_int max_two min_two max_three min_three max_four min_four
set_option linter.unusedVariables false
set_option linter.unusedSimpArgs false
def strings_Contains.f (a0 : ByteArray) (a1 : ByteArray) : Option (Bool) := if a1.size = 1 then some (decide (0 ≤ Lib.indexByte a0.data.toList (a1.data.toList.headD 0))) else none
set_option maxHeartbeats 1000000 in
set_option maxRecDepth 100000 in
theorem strings_Contains.any1 (s : ByteArray) (c : Int) (w : World) :
  Calls Try.prog 53 #[.string s, .int .u8 c] w fun e w' => e = .returned (.int .i64 (Lib.indexByte s.data.toList c.toNat.toUInt8)) ∧ w' = w := by
 go_enter Try.func53, Try.ntmps53
 go_wp2
 rw [run_callFunc_extern Try.func62 (by kernel_rfl) (by kernel_rfl) (by kernel_rfl) (e := Extern.BytealgIndexByte.indexByte) (by kernel_rfl), Lib.run_indexByteString]
 simp only [Result.andThen]
 rw [Oper.upon_value]
 go_wp2
 go_ret
 exact ⟨rfl, rfl⟩
set_option maxHeartbeats 2000000 in
set_option maxRecDepth 100000 in
theorem strings_Contains.any2 (s : ByteArray) (c : UInt8) (w : World) :
  Calls Try.prog 65 #[.string s, .string ⟨#[c]⟩] w fun e w' => e = .returned (.int .i64 (Lib.indexByte s.data.toList c)) ∧ w' = w := by
 go_enter Try.func65, Try.ntmps65
 go_wp2_with (go_at_call 53; refine (strings_Contains.any1 _ _ _).mono ?_; rintro e w' ⟨rfl, rfl⟩)
 ·have h : ([c] == s.toList) = true := by assumption
  go_ret
  refine ⟨?_, rfl⟩
  have e : s.data.toList = [c] := by rw [← Lib.toList_data]; exact (beq_iff_eq.1 h).symm
  rw [e]
  simp [Lib.indexByte]
 ·go_ret
  exact ⟨rfl, rfl⟩
set_option maxHeartbeats 1000000 in
theorem strings_Contains.any3 (s : ByteArray) (c : UInt8) (w : World) :
  Calls Try.prog 61 #[.string s, .string ⟨#[c]⟩] w fun e w' => e = .returned (.int .i64 (Lib.indexByte s.data.toList c)) ∧ w' = w := by
 go_enter Try.func61, Try.ntmps61
 go_wp2_with (go_at_call 65; refine (strings_Contains.any2 _ _ _).mono ?_; rintro e w' ⟨rfl, rfl⟩)
 go_ret
 exact ⟨rfl, rfl⟩
set_option maxHeartbeats 1000000 in
theorem strings_Contains.any4 (s : ByteArray) (c : UInt8) (w : World) :
  Calls Try.prog 52 #[.string s, .string ⟨#[c]⟩] w fun e w' => e = .returned (.bool (decide (0 ≤ Lib.indexByte s.data.toList c))) ∧ Drawn0 w w' := by
 go_enter Try.func52, Try.ntmps52
 go_wp2_with (go_at_call 61; refine (strings_Contains.any3 _ _ _).mono ?_; rintro e w' ⟨rfl, rfl⟩)
 go_ret
 exact ⟨rfl, by repeat (first | exact Drawn0.refl _ | apply Drawn0.step)⟩
theorem strings_Contains.calls (a0 : ByteArray) (a1 : ByteArray) (r : Bool) (w : World) (h : strings_Contains.f a0 a1 = some r) :
  Calls Try.prog 52 #[.string a0, .string a1] w fun e w' => e = .returned (.bool r) ∧ Drawn0 w w' := by
 unfold strings_Contains.f at h
 by_cases h1 : a1.size = 1
 rotate_left
 ·rw [if_neg h1] at h
  cases h
 rw [if_pos h1] at h
 obtain rfl := Option.some.inj h
 obtain ⟨⟨l⟩⟩ := a1
 match l, h1 with
 | [c], _ => exact strings_Contains.any4 a0 c w
end Go.Proofs.Yteeplponconnjaa.P
namespace Go.Proofs.Yteeplponconnjaa.P
open Go.RowKit Go.Proofs.YteeplponconnjaaW.PrintWords Go.Proofs.YteeplponconnjaaW.PrintLast Go.Proofs.YteeplponconnjaaW.PrintMore
attribute [local go_sem] max2_int min2_int max_two min_two max_three min_three max_four min_four
set_option linter.unusedVariables false
set_option linter.unusedSimpArgs false
def impl_isTest.f (a0 : ByteArray) : Option (Bool) := if (a0.size : Int) = 1 then ((strings_Contains.f (⟨#[40, 91, 97, 98, 42, 46]⟩ : ByteArray) a0).bind fun t222 => (some t222)) else (some false)
set_option maxHeartbeats 8000000 in
set_option maxRecDepth 100000 in
theorem impl_isTest.calls (a0 : ByteArray) (r : Bool) (w : World) (h : impl_isTest.f a0 = some r) :
  Calls Try.prog 37 #[.string a0] w fun e w' => e = .returned (.bool r) ∧ Drawn0 w w' := by
 have H : (if (a0.size : Int) = 1 then ((strings_Contains.f (⟨#[40, 91, 97, 98, 42, 46]⟩ : ByteArray) a0).bind fun t222 => (some t222)) else (some false)) = some r := h
 clear h
 by_cases c2 : (a0.size : Int) = 1
 rotate_left
 ·rw [if_neg c2] at H
  have c2b0 : ((a0.size : Int) == 1) = false := beq_eq_false_iff_ne.mpr c2
  have c2b1 : ((a0.size : Int) != 1) = true := bne_iff_ne.mpr c2
  obtain rfl := Option.some.inj H
  go_enter Try.func37, Try.ntmps37
  go_wp2
  go_ret
  exact ⟨by first | rfl | (simp; done) | (simp [*]; done), by repeat (first | exact Drawn0.refl _ | apply Drawn0.step)⟩
 rw [if_pos c2] at H
 have c2b0 : ((a0.size : Int) == 1) = true := beq_iff_eq.mpr c2
 have c2b1 : ((a0.size : Int) != 1) = false := bne_eq_false_iff_eq.mpr c2
 clear c2
 replace H := Option.bind_eq_some_iff.mp H
 obtain ⟨t222, A30, H⟩ := H
 replace H : (some t222) = some r := H
 have A3 := AZ.mk A30
 clear A30
 obtain rfl := Option.some.inj H
 go_enter Try.func37, Try.ntmps37
 go_wp2_with (first | (go_at_call 52; (with_reducible refine (strings_Contains.calls (⟨#[40, 91, 97, 98, 42, 46]⟩ : ByteArray) a0 t222 _ A3.out).mono ?_); rintro e w' ⟨rfl, ⟨nd, rfl⟩⟩))
 go_ret
 exact ⟨by first | rfl | (simp; done) | (simp [*]; done), by repeat (first | exact Drawn0.refl _ | apply Drawn0.step)⟩
end Go.Proofs.Yteeplponconnjaa.P
namespace Go.Proofs.Yteeplponconnjaa.P
open Go.RowKit Go.Proofs.YteeplponconnjaaW.PrintWords Go.Proofs.YteeplponconnjaaW.PrintLast Go.Proofs.YteeplponconnjaaW.PrintMore
attribute [local go_sem] max2_int min2_int max_two min_two max_three min_three max_four min_four
set_option linter.unusedVariables false
set_option linter.unusedSimpArgs false
def impl_ValidQuery_1.f (a0_0 : Bool) (a0_1 : ByteArray) : Option (Bool) := (impl_isTest.f a0_1).bind fun t222 => (some (!t222))
set_option maxHeartbeats 8000000 in
set_option maxRecDepth 100000 in
theorem impl_ValidQuery_1.calls (a0_0 : Bool) (a0_1 : ByteArray) (r : Bool) (w : World) (h : impl_ValidQuery_1.f a0_0 a0_1 = some r) :
  Calls Try.prog 36 #[.agg #[.bool a0_0, .string a0_1]] w fun e w' => e = .returned (.bool r) ∧ Below w.heap.size w w' := by
 have hu62 := Try.underlying62
 have HB := AZ.mk (Below.refl w.heap.size w)
 have H : ((impl_isTest.f a0_1).bind fun t222 => (some (!t222))) = some r := h
 clear h
 replace H := Option.bind_eq_some_iff.mp H
 obtain ⟨t222, A20, H⟩ := H
 replace H : (some (!t222)) = some r := H
 have A2 := AZ.mk A20
 clear A20
 obtain rfl := Option.some.inj H
 go_enter Try.func36, Try.ntmps36
 go_wp2_with (first | ((with_reducible refine gate_dst (N := 1) rfl ?_); refine box_event ?hg (N := 1) ?hd (cs := #[.bool a0_0, .string a0_1]) (t := 62) ?hr ?_; (case hd => rfl); (case hg => rfl); (case hr => first | (go_simp; done) | (go_simp; rfl)); intro gb221 hg w3 hbox hb; have n0_ := AZ.mk (pT (by repeat (first | (with_reducible first | exact HB.out | apply pA | apply pN | apply pD) | exact HB.out)) hb); have n1_ := AZ.mk (hbox); have n2_ := AZ.mk ((by rw [hg]; exact (pZ (by repeat (first | (with_reducible first | exact HB.out | apply pA | apply pN | apply pD) | exact HB.out))) : w.heap.size ≤ gb221)); have n3_ := AZ.mk ((by rw [hg]; exact (pZ (by repeat (first | (with_reducible first | exact HB.out | apply pA | apply pN | apply pD) | exact HB.out))) : w.heap.size ≤ gb221)); clear HB; have HB := n0_; have BK221 := n1_; have GW221 := n2_; have GE221 := n3_; clear n0_ n1_ n2_ n3_; clear hb hbox hg; have hcz4_0 : w3.cell? ⟨gb221, 0, none⟩ = some (.bool a0_0) := (bc BK221.out 0).trans rfl; have hcz4_1 : w3.cell? ⟨gb221, 1, none⟩ = some (.string a0_1) := (bc BK221.out 1).trans rfl; have hfz4_0 := bf BK221.out 0; have hfz4_1 := bf BK221.out 1) | ((with_reducible refine gate_callee (f := 37) rfl ?_); refine goesL_ (some 5) rfl rfl Try.func37 (by kernel_rfl) rfl #[.string a0_1] rfl (by (try simp only [List.map_toArray, List.map_cons, List.map_nil]); first | done | rfl | (simp only [List.length_drop, List.length_take]; rfl)) ?_; (with_reducible refine (impl_isTest.calls a0_1 t222 _ A2.out).mono ?_); rintro e w' ⟨rfl, ⟨nd, rfl⟩⟩; refine ⟨_, rfl, ?_⟩))
 go_ret
 exact ⟨by first | rfl | (simp [errW_none, errW_some] <;> rfl) | (simp [*, errW_none, errW_some] <;> rfl), by repeat (first | (with_reducible first | exact HB.out | apply pA | apply pN | apply pD | refine pS ?_ GE221.out) | exact HB.out)⟩
end Go.Proofs.Yteeplponconnjaa.P
namespace Go.Proofs.Yteeplponconnjaa.P
open Go.RowKit Go.Proofs.YteeplponconnjaaW.PrintWords Go.Proofs.YteeplponconnjaaW.PrintLast Go.Proofs.YteeplponconnjaaW.PrintMore
attribute [local go_sem] max2_int min2_int max_two min_two max_three min_three max_four min_four
set_option linter.unusedVariables false
set_option linter.unusedSimpArgs false
def slices_IndexFunc_Limpl_QueryStep_impl_QueryStep_at_impl_ValidQuery_1.l0 : Nat → List (S62) → Int → Int → Option (Int)
 | 0, _, _, _ => none
 | k + 1, x0, x7, x8 => if x8 < x7 then (if 0 ≤ x8 then (if x8 < (x0.length : Int) then ((impl_ValidQuery_1.f ((rd_T62 x0 x8).f0) ((rd_T62 x0 x8).f1)).bind fun t221 => (if t221 = true then (some x8) else (slices_IndexFunc_Limpl_QueryStep_impl_QueryStep_at_impl_ValidQuery_1.l0 k x0 x7 (wrap64 (x8 + 1))))) else (none)) else (none)) else (some (-1))
def slices_IndexFunc_Limpl_QueryStep_impl_QueryStep_at_impl_ValidQuery_1.f (k : Nat) (l0 : List (S62))  : Option (Int) := slices_IndexFunc_Limpl_QueryStep_impl_QueryStep_at_impl_ValidQuery_1.l0 k l0 (l0.length : Int) 0
set_option maxHeartbeats 8000000 in
set_option maxRecDepth 100000 in
theorem slices_IndexFunc_Limpl_QueryStep_impl_QueryStep_at_impl_ValidQuery_1.calls (k : Nat) (A0 : Option Addr) (c0 : Nat) (l0 : List (S62))  (r : Int) (w : World) (hr0 : Kd.C k62 w A0 l0.length l0) (hc0 : l0.length ≤ c0) (h : slices_IndexFunc_Limpl_QueryStep_impl_QueryStep_at_impl_ValidQuery_1.f k l0 = some r) :
  Calls Try.prog 51 #[.slice A0 l0.length c0, .func (.func 36) #[] #[]] w fun e w' => e = .returned (.int .i64 r) ∧ Below w.heap.size w w' := by
 have hu62 := Try.underlying62
 have HR0 := AZ.mk hr0
 have HC0 := AZ.mk hc0
 clear hr0 hc0
 have HB := AZ.mk (Below.refl w.heap.size w)
 have H : (slices_IndexFunc_Limpl_QueryStep_impl_QueryStep_at_impl_ValidQuery_1.l0 k l0 (l0.length : Int) 0) = some r := h
 clear h
 have H' := AZ.mk H
 clear H
 go_enter Try.func51, Try.ntmps51
 go_wp2
 go_loopg [8] k (fun kq v8 w' => ∃ (x8_1 : Int), v8 = .int .i64 x8_1 ∧ AZ (slices_IndexFunc_Limpl_QueryStep_impl_QueryStep_at_impl_ValidQuery_1.l0 kq l0 (l0.length : Int) x8_1 = some r) ∧ AZ (kq ≤ k) ∧ AZ (Below w.heap.size w w'))
 case atStart => exact ⟨(0), (by first | rfl | (simp; done) | (simp [*]; done)), H', ⟨Nat.le_refl _⟩, ⟨by repeat (first | (with_reducible first | exact HB.out | apply pA | apply pN | apply pD) | exact HB.out)⟩⟩
 case round =>
  clear H'
  try clear p2
  obtain ⟨x8_1, rfl, HA, HK1, HB⟩ := hrel
  cases gk with
  | zero => exact absurd HA.out (by simp [slices_IndexFunc_Limpl_QueryStep_impl_QueryStep_at_impl_ValidQuery_1.l0])
  | succ k1 =>
   have H := HA.out
   clear HA
   simp only [slices_IndexFunc_Limpl_QueryStep_impl_QueryStep_at_impl_ValidQuery_1.l0] at H
   by_cases c3 : x8_1 < (l0.length : Int)
   rotate_left
   ·rw [if_neg c3] at H
    have c3b0 : decide (x8_1 < (l0.length : Int)) = false := decide_eq_false c3
    clear c3
    obtain rfl := Option.some.inj H
    go_wp2
    go_ret
    exact ⟨by first | rfl | (simp [errW_none, errW_some] <;> rfl) | (simp [*, errW_none, errW_some] <;> rfl), by repeat (first | (with_reducible first | exact HB.out | apply pA | apply pN | apply pD) | exact HB.out)⟩
   rw [if_pos c3] at H
   have c3b0 : decide (x8_1 < (l0.length : Int)) = true := decide_eq_true c3
   clear c3
   by_cases c4 : 0 ≤ x8_1
   rotate_left
   ·rw [if_neg c4] at H
    exact absurd H (by simp)
   rw [if_pos c4] at H
   have c4b0 : decide (0 ≤ x8_1) = true := decide_eq_true c4
   clear c4
   by_cases c5 : x8_1 < (l0.length : Int)
   rotate_left
   ·rw [if_neg c5] at H
    exact absurd H (by simp)
   rw [if_pos c5] at H
   have c5b0 : decide (x8_1 < (l0.length : Int)) = true := decide_eq_true c5
   clear c5
   replace H := Option.bind_eq_some_iff.mp H
   obtain ⟨t221, A60, H⟩ := H
   replace H : (if t221 = true then (some x8_1) else (slices_IndexFunc_Limpl_QueryStep_impl_QueryStep_at_impl_ValidQuery_1.l0 k1 l0 (l0.length : Int) (wrap64 (x8_1 + 1)))) = some r := H
   have A6 := AZ.mk A60
   clear A60
   by_cases c7 : t221 = true
   ·subst c7
    have H1 : (some x8_1) = some r := by rw [if_pos rfl] at H; exact H
    clear H
    have H := H1
    clear H1
    obtain rfl := Option.some.inj H
    have p220 : 0 ≤ (x8_1 : Int) := oT (by first | (with_reducible assumption) | assumption)
    have q220 : x8_1 < (l0.length : Int) := oT (by first | (with_reducible assumption) | assumption)
    obtain ⟨ad220, e220, hx220_0, hx220_1⟩ := at_T62 HR0.out x8_1 p220 q220
    cases e220
    replace hx220_0 := (HB.out.cell (World.block_lt_of_cell? w _ hx220_0)).trans hx220_0
    replace hx220_1 := (HB.out.cell (World.block_lt_of_cell? w _ hx220_1)).trans hx220_1
    replace p220 := eq_true p220
    replace q220 := eq_true q220
    go_wp2_with (first | ((with_reducible refine gate_value (t := 11) rfl ?_); refine goesVL_ (some 16) rfl rfl Try.func36 (by kernel_rfl) rfl #[.agg #[.bool ((rd_T62 l0 x8_1).f0), .string ((rd_T62 l0 x8_1).f1)]] #[.agg #[.bool ((rd_T62 l0 x8_1).f0), .string ((rd_T62 l0 x8_1).f1)]] rfl (by rfl) (by (try simp only [List.map_toArray, List.map_cons, List.map_nil]); first | done | rfl | (simp only [List.length_drop, List.length_take]; rfl)) (by rfl) ?_; (with_reducible refine (impl_ValidQuery_1.calls ((rd_T62 l0 x8_1).f0) ((rd_T62 l0 x8_1).f1) true _ A6.out).mono ?_); rintro e w8 ⟨rfl, hb⟩; refine ⟨_, rfl, ?_⟩; have n0_ := AZ.mk (pT (by repeat (first | (with_reducible first | exact HB.out | apply pA | apply pN | apply pD) | exact HB.out)) hb); clear HB; have HB := n0_; clear n0_; (try clear hb); (try clear hb2); (try clear hk); (try clear hi)))
    go_ret
    exact ⟨by first | rfl | (simp [errW_none, errW_some] <;> rfl) | (simp [*, errW_none, errW_some] <;> rfl), by repeat (first | (with_reducible first | exact HB.out | apply pA | apply pN | apply pD) | exact HB.out)⟩
   replace c7 := Bool.eq_false_iff.mpr c7
   subst c7
   have H1 : (slices_IndexFunc_Limpl_QueryStep_impl_QueryStep_at_impl_ValidQuery_1.l0 k1 l0 (l0.length : Int) (wrap64 (x8_1 + 1))) = some r := by rw [if_neg (show ¬ (false = true) by decide)] at H; exact H
   clear H
   have H := H1
   clear H1
   have H' := AZ.mk H
   clear H
   have p220 : 0 ≤ (x8_1 : Int) := oT (by first | (with_reducible assumption) | assumption)
   have q220 : x8_1 < (l0.length : Int) := oT (by first | (with_reducible assumption) | assumption)
   obtain ⟨ad220, e220, hx220_0, hx220_1⟩ := at_T62 HR0.out x8_1 p220 q220
   cases e220
   replace hx220_0 := (HB.out.cell (World.block_lt_of_cell? w _ hx220_0)).trans hx220_0
   replace hx220_1 := (HB.out.cell (World.block_lt_of_cell? w _ hx220_1)).trans hx220_1
   replace p220 := eq_true p220
   replace q220 := eq_true q220
   go_wp2_with (first | ((with_reducible refine gate_value (t := 11) rfl ?_); refine goesVL_ (some 16) rfl rfl Try.func36 (by kernel_rfl) rfl #[.agg #[.bool ((rd_T62 l0 x8_1).f0), .string ((rd_T62 l0 x8_1).f1)]] #[.agg #[.bool ((rd_T62 l0 x8_1).f0), .string ((rd_T62 l0 x8_1).f1)]] rfl (by rfl) (by (try simp only [List.map_toArray, List.map_cons, List.map_nil]); first | done | rfl | (simp only [List.length_drop, List.length_take]; rfl)) (by rfl) ?_; (with_reducible refine (impl_ValidQuery_1.calls ((rd_T62 l0 x8_1).f0) ((rd_T62 l0 x8_1).f1) false _ A6.out).mono ?_); rintro e w9 ⟨rfl, hb⟩; refine ⟨_, rfl, ?_⟩; have n0_ := AZ.mk (pT (by repeat (first | (with_reducible first | exact HB.out | apply pA | apply pN | apply pD) | exact HB.out)) hb); clear HB; have HB := n0_; clear n0_; (try clear hb); (try clear hb2); (try clear hk); (try clear hi)))
   go_roundg k1
   case measure => have := HK1.out; omega
   case rel => exact ⟨(wrap64 (x8_1 + 1)), (by first | rfl | (simp; done) | (simp [*]; done)), H', ⟨by have := HK1.out; omega⟩, ⟨by repeat (first | (with_reducible first | exact HB.out | apply pA | apply pN | apply pD) | exact HB.out)⟩⟩
end Go.Proofs.Yteeplponconnjaa.P
namespace Go.Proofs.Yteeplponconnjaa.P
open Go.RowKit Go.Proofs.YteeplponconnjaaW.PrintWords Go.Proofs.YteeplponconnjaaW.PrintLast Go.Proofs.YteeplponconnjaaW.PrintMore
attribute [local go_sem] max2_int min2_int max_two min_two max_three min_three max_four min_four
set_option linter.unusedVariables false
set_option linter.unusedSimpArgs false
def slices_ContainsFunc_Limpl_QueryStep_impl_QueryStep_at_impl_ValidQuery_1.f (k : Nat) (l0 : List (S62))  : Option (Bool) := (slices_IndexFunc_Limpl_QueryStep_impl_QueryStep_at_impl_ValidQuery_1.f k l0).bind fun t220 => (some (decide (t220 ≥ 0)))
set_option maxHeartbeats 8000000 in
set_option maxRecDepth 100000 in
theorem slices_ContainsFunc_Limpl_QueryStep_impl_QueryStep_at_impl_ValidQuery_1.calls (k : Nat) (A0 : Option Addr) (c0 : Nat) (l0 : List (S62))  (r : Bool) (w : World) (hr0 : Kd.C k62 w A0 l0.length l0) (hc0 : l0.length ≤ c0) (h : slices_ContainsFunc_Limpl_QueryStep_impl_QueryStep_at_impl_ValidQuery_1.f k l0 = some r) :
  Calls Try.prog 35 #[.slice A0 l0.length c0, .func (.func 36) #[] #[]] w fun e w' => e = .returned (.bool r) ∧ Below w.heap.size w w' := by
 have HR0 := AZ.mk hr0
 have HC0 := AZ.mk hc0
 clear hr0 hc0
 have HB := AZ.mk (Below.refl w.heap.size w)
 have H : ((slices_IndexFunc_Limpl_QueryStep_impl_QueryStep_at_impl_ValidQuery_1.f k l0).bind fun t220 => (some (decide (t220 ≥ 0)))) = some r := h
 clear h
 replace H := Option.bind_eq_some_iff.mp H
 obtain ⟨t220, A30, H⟩ := H
 replace H : (some (decide (t220 ≥ 0))) = some r := H
 have A3 := AZ.mk A30
 clear A30
 obtain rfl := Option.some.inj H
 go_enter Try.func35, Try.ntmps35
 go_wp2_with (first | ((with_reducible refine gate_callee (f := 51) rfl ?_); refine goesL_ (some 7) rfl rfl Try.func51 (by kernel_rfl) rfl #[.slice A0 l0.length c0, .func (.func 36) #[] #[]] rfl (by (try simp only [List.map_toArray, List.map_cons, List.map_nil]); first | done | rfl | (simp only [List.length_drop, List.length_take]; rfl)) ?_; (with_reducible refine (slices_IndexFunc_Limpl_QueryStep_impl_QueryStep_at_impl_ValidQuery_1.calls k _ _ l0  t220 _ ?side1 ?side2 A3.out).mono ?_); (case side1 => repeat (first | exact HR0.out | (with_reducible refine Kd.C_alloc ?_ _) | (with_reducible refine Kd.C_drewN ?_ _) | (with_reducible refine Kd.C_drew ?_))); (case side2 => exact HC0.out); rintro e w4 ⟨rfl, hb⟩; refine ⟨_, rfl, ?_⟩; have n0_ := AZ.mk (pT (by repeat (first | (with_reducible first | exact HB.out | apply pA | apply pN | apply pD) | exact HB.out)) hb); clear HB; have HB := n0_; clear n0_; (try clear hb); (try clear hb2); (try clear hk); (try clear hi)))
 go_ret
 exact ⟨by first | rfl | (simp [errW_none, errW_some] <;> rfl) | (simp [*, errW_none, errW_some] <;> rfl), by repeat (first | (with_reducible first | exact HB.out | apply pA | apply pN | apply pD) | exact HB.out)⟩
end Go.Proofs.Yteeplponconnjaa.P
namespace Go.Proofs.Yteeplponconnjaa.P
open Go.RowKit Go.Proofs.YteeplponconnjaaW.PrintWords Go.Proofs.YteeplponconnjaaW.PrintLast Go.Proofs.YteeplponconnjaaW.PrintMore
attribute [local go_sem] max2_int min2_int max_two min_two max_three min_three max_four min_four
set_option linter.unusedVariables false
set_option linter.unusedSimpArgs false
def impl_ValidQuery.f (k : Nat) (l0_0 : List (S62)) : Option (Bool) := (impl_size_impl_QueryStep.f l0_0).bind fun t218 => ((impl_within.f t218 1 6).bind fun t219 => (if t219 = true then ((slices_ContainsFunc_Limpl_QueryStep_impl_QueryStep_at_impl_ValidQuery_1.f k l0_0).bind fun t220 => (some (!t220))) else (some false)))
set_option maxHeartbeats 8000000 in
set_option maxRecDepth 100000 in
theorem impl_ValidQuery.calls (k : Nat) (A0_0 : Option Addr) (c0_0 : Nat) (l0_0 : List (S62)) (r : Bool) (w : World) (hr0_0 : Kd.C k62 w A0_0 l0_0.length l0_0) (hc0_0 : l0_0.length ≤ c0_0) (h : impl_ValidQuery.f k l0_0 = some r) :
  Calls Try.prog 22 #[.agg #[.slice A0_0 l0_0.length c0_0]] w fun e w' => e = .returned (.bool r) ∧ Below w.heap.size w w' := by
 have hu30 := Try.underlying30
 have HR0_0 := AZ.mk hr0_0
 have HC0_0 := AZ.mk hc0_0
 clear hr0_0 hc0_0
 have HB := AZ.mk (Below.refl w.heap.size w)
 have H : ((impl_size_impl_QueryStep.f l0_0).bind fun t218 => ((impl_within.f t218 1 6).bind fun t219 => (if t219 = true then ((slices_ContainsFunc_Limpl_QueryStep_impl_QueryStep_at_impl_ValidQuery_1.f k l0_0).bind fun t220 => (some (!t220))) else (some false)))) = some r := h
 clear h
 replace H := Option.bind_eq_some_iff.mp H
 obtain ⟨t218, A20, H⟩ := H
 replace H : ((impl_within.f t218 1 6).bind fun t219 => (if t219 = true then ((slices_ContainsFunc_Limpl_QueryStep_impl_QueryStep_at_impl_ValidQuery_1.f k l0_0).bind fun t220 => (some (!t220))) else (some false))) = some r := H
 have A2 := AZ.mk A20
 clear A20
 replace H := Option.bind_eq_some_iff.mp H
 obtain ⟨t219, A30, H⟩ := H
 replace H : (if t219 = true then ((slices_ContainsFunc_Limpl_QueryStep_impl_QueryStep_at_impl_ValidQuery_1.f k l0_0).bind fun t220 => (some (!t220))) else (some false)) = some r := H
 have A3 := AZ.mk A30
 clear A30
 by_cases c4 : t219 = true
 rotate_left
 ·replace c4 := Bool.eq_false_iff.mpr c4
  subst c4
  have H1 : (some false) = some r := by rw [if_neg (show ¬ (false = true) by decide)] at H; exact H
  clear H
  have H := H1
  clear H1
  obtain rfl := Option.some.inj H
  go_enter Try.func22, Try.ntmps22
  go_wp2_with (first | ((with_reducible refine gate_dst (N := 1) rfl ?_); refine box_event ?hg (N := 1) ?hd (cs := #[.slice A0_0 l0_0.length c0_0]) (t := 30) ?hr ?_; (case hd => rfl); (case hg => rfl); (case hr => first | (go_simp; done) | (go_simp; rfl)); intro gb217 hg w9 hbox hb; have n0_ := AZ.mk (pT (by repeat (first | (with_reducible first | exact HB.out | apply pA | apply pN | apply pD) | exact HB.out)) hb); have n1_ := AZ.mk (hbox); have n2_ := AZ.mk ((by rw [hg]; exact (pZ (by repeat (first | (with_reducible first | exact HB.out | apply pA | apply pN | apply pD) | exact HB.out))) : w.heap.size ≤ gb217)); have n3_ := AZ.mk ((by rw [hg]; exact (pZ (by repeat (first | (with_reducible first | exact HB.out | apply pA | apply pN | apply pD) | exact HB.out))) : w.heap.size ≤ gb217)); clear HB; have HB := n0_; have BK217 := n1_; have GW217 := n2_; have GE217 := n3_; clear n0_ n1_ n2_ n3_; clear hb hbox hg; have hcz10_0 : w9.cell? ⟨gb217, 0, none⟩ = some (.slice A0_0 l0_0.length c0_0) := (bc BK217.out 0).trans rfl; have hfz10_0 := bf BK217.out 0) | ((with_reducible refine gate_callee (f := 34) rfl ?_); refine goesL_ (some 5) rfl rfl Try.func34 (by kernel_rfl) rfl #[.slice A0_0 l0_0.length c0_0] rfl (by (try simp only [List.map_toArray, List.map_cons, List.map_nil]); first | done | rfl | (simp only [List.length_drop, List.length_take]; rfl)) ?_; (with_reducible refine (impl_size_impl_QueryStep.calls _ _ l0_0 t218 _ ?side1 ?side2 A2.out).mono ?_); (case side1 => repeat (first | exact (Kd.C_below HR0_0.out HB.out) | (with_reducible refine Kd.C_alloc ?_ _) | (with_reducible refine Kd.C_drewN ?_ _) | (with_reducible refine Kd.C_drew ?_))); (case side2 => exact HC0_0.out); rintro e w' ⟨rfl, ⟨nd, rfl⟩⟩; refine ⟨_, rfl, ?_⟩) | ((with_reducible refine gate_callee (f := 33) rfl ?_); refine goesL_ (some 6) rfl rfl Try.func33 (by kernel_rfl) rfl #[.int .i64 t218, .int .i64 1, .int .i64 6] rfl (by (try simp only [List.map_toArray, List.map_cons, List.map_nil]); first | done | rfl | (simp only [List.length_drop, List.length_take]; rfl)) ?_; (with_reducible refine (impl_within.calls t218 1 6 false _ A3.out).mono ?_); rintro e w' ⟨rfl, ⟨nd, rfl⟩⟩; refine ⟨_, rfl, ?_⟩))
  go_ret
  exact ⟨by first | rfl | (simp [errW_none, errW_some] <;> rfl) | (simp [*, errW_none, errW_some] <;> rfl), by repeat (first | (with_reducible first | exact HB.out | apply pA | apply pN | apply pD | refine pS ?_ GE217.out) | exact HB.out)⟩
 subst c4
 have H1 : ((slices_ContainsFunc_Limpl_QueryStep_impl_QueryStep_at_impl_ValidQuery_1.f k l0_0).bind fun t220 => (some (!t220))) = some r := by rw [if_pos rfl] at H; exact H
 clear H
 have H := H1
 clear H1
 replace H := Option.bind_eq_some_iff.mp H
 obtain ⟨t220, A50, H⟩ := H
 replace H : (some (!t220)) = some r := H
 have A5 := AZ.mk A50
 clear A50
 obtain rfl := Option.some.inj H
 go_enter Try.func22, Try.ntmps22
 go_wp2_with (first | ((with_reducible refine gate_dst (N := 1) rfl ?_); refine box_event ?hg (N := 1) ?hd (cs := #[.slice A0_0 l0_0.length c0_0]) (t := 30) ?hr ?_; (case hd => rfl); (case hg => rfl); (case hr => first | (go_simp; done) | (go_simp; rfl)); intro gb217 hg w6 hbox hb; have n0_ := AZ.mk (pT (by repeat (first | (with_reducible first | exact HB.out | apply pA | apply pN | apply pD) | exact HB.out)) hb); have n1_ := AZ.mk (hbox); have n2_ := AZ.mk ((by rw [hg]; exact (pZ (by repeat (first | (with_reducible first | exact HB.out | apply pA | apply pN | apply pD) | exact HB.out))) : w.heap.size ≤ gb217)); have n3_ := AZ.mk ((by rw [hg]; exact (pZ (by repeat (first | (with_reducible first | exact HB.out | apply pA | apply pN | apply pD) | exact HB.out))) : w.heap.size ≤ gb217)); clear HB; have HB := n0_; have BK217 := n1_; have GW217 := n2_; have GE217 := n3_; clear n0_ n1_ n2_ n3_; clear hb hbox hg; have hcz7_0 : w6.cell? ⟨gb217, 0, none⟩ = some (.slice A0_0 l0_0.length c0_0) := (bc BK217.out 0).trans rfl; have hfz7_0 := bf BK217.out 0) | ((with_reducible refine gate_callee (f := 34) rfl ?_); refine goesL_ (some 5) rfl rfl Try.func34 (by kernel_rfl) rfl #[.slice A0_0 l0_0.length c0_0] rfl (by (try simp only [List.map_toArray, List.map_cons, List.map_nil]); first | done | rfl | (simp only [List.length_drop, List.length_take]; rfl)) ?_; (with_reducible refine (impl_size_impl_QueryStep.calls _ _ l0_0 t218 _ ?side1 ?side2 A2.out).mono ?_); (case side1 => repeat (first | exact (Kd.C_below HR0_0.out HB.out) | (with_reducible refine Kd.C_alloc ?_ _) | (with_reducible refine Kd.C_drewN ?_ _) | (with_reducible refine Kd.C_drew ?_))); (case side2 => exact HC0_0.out); rintro e w' ⟨rfl, ⟨nd, rfl⟩⟩; refine ⟨_, rfl, ?_⟩) | ((with_reducible refine gate_callee (f := 33) rfl ?_); refine goesL_ (some 6) rfl rfl Try.func33 (by kernel_rfl) rfl #[.int .i64 t218, .int .i64 1, .int .i64 6] rfl (by (try simp only [List.map_toArray, List.map_cons, List.map_nil]); first | done | rfl | (simp only [List.length_drop, List.length_take]; rfl)) ?_; (with_reducible refine (impl_within.calls t218 1 6 true _ A3.out).mono ?_); rintro e w' ⟨rfl, ⟨nd, rfl⟩⟩; refine ⟨_, rfl, ?_⟩) | (go_at_call 35; (with_reducible refine (slices_ContainsFunc_Limpl_QueryStep_impl_QueryStep_at_impl_ValidQuery_1.calls k _ _ l0_0  t220 _ ?side1 ?side2 A5.out).mono ?_); (case side1 => repeat (first | exact (Kd.C_below HR0_0.out (by repeat (first | (with_reducible first | exact HB.out | apply pA | apply pN | apply pD | refine pS ?_ GE217.out) | exact HB.out))) | (with_reducible refine Kd.C_alloc ?_ _) | (with_reducible refine Kd.C_drewN ?_ _) | (with_reducible refine Kd.C_drew ?_))); (case side2 => exact HC0_0.out); rintro e w8 ⟨rfl, hb⟩; have n0_ := AZ.mk (bb_ (g := gb217) (o := .cells #[.slice A0_0 l0_0.length c0_0] 30 (0, 0)) (by (with_reducible repeat (first | refine bn_ ?_ _ | refine bd_ ?_ | refine ba_ ?_ _)); exact BK217.out) hb); have n1_ := AZ.mk (pT (by repeat (first | (with_reducible first | exact HB.out | apply pA | apply pN | apply pD | refine pS ?_ GE217.out) | exact HB.out)) hb); clear BK217; clear HB; have BK217 := n0_; have HB := n1_; clear n0_ n1_; (try clear hb); (try clear hb2); (try clear hk); (try clear hi)))
 go_ret
 exact ⟨by first | rfl | (simp [errW_none, errW_some] <;> rfl) | (simp [*, errW_none, errW_some] <;> rfl), by repeat (first | (with_reducible first | exact HB.out | apply pA | apply pN | apply pD | refine pS ?_ GE217.out) | exact HB.out)⟩
end Go.Proofs.Yteeplponconnjaa.P
namespace Go.Proofs.Yteeplponconnjaa.P
open Go.RowKit Go.Proofs.YteeplponconnjaaW.PrintWords Go.Proofs.YteeplponconnjaaW.PrintLast Go.Proofs.YteeplponconnjaaW.PrintMore
attribute [local go_sem] max2_int min2_int max_two min_two max_three min_three max_four min_four
set_option linter.unusedVariables false
set_option linter.unusedSimpArgs false
set_option maxHeartbeats 1000000 in
set_option maxRecDepth 100000 in
theorem stringslite_IndexByte.any (s : ByteArray) (c : Int) (w : World) :
  Calls Try.prog 53 #[.string s, .int .u8 c] w fun e w' => e = .returned (.int .i64 (Lib.indexByte s.data.toList c.toNat.toUInt8)) ∧ w' = w := by
 go_enter Try.func53, Try.ntmps53
 go_wp2
 rw [run_callFunc_extern Try.func62 (by kernel_rfl) (by kernel_rfl) (by kernel_rfl) (e := Extern.BytealgIndexByte.indexByte) (by kernel_rfl), Lib.run_indexByteString]
 simp only [Result.andThen]
 rw [Oper.upon_value]
 go_wp2
 go_ret
 exact ⟨rfl, rfl⟩
def strings_IndexByte.f (a0 : ByteArray) (a1 : Int) : Option (Int) := some (Lib.indexByte a0.data.toList a1.toNat.toUInt8)
theorem strings_IndexByte.calls (a0 : ByteArray) (a1 : Int) (r : Int) (w : World) (h : strings_IndexByte.f a0 a1 = some r) :
  Calls Try.prog 38 #[.string a0, .int .u8 a1] w fun e w' => e = .returned (.int .i64 r) ∧ Drawn0 w w' := by
 obtain rfl := Option.some.inj h
 clear h
 go_enter Try.func38, Try.ntmps38
 go_wp2_with (go_at_call 53; refine (stringslite_IndexByte.any _ _ _).mono ?_; rintro e w' ⟨rfl, rfl⟩)
 go_ret
 exact ⟨rfl, by repeat (first | exact Drawn0.refl _ | apply Drawn0.step)⟩
end Go.Proofs.Yteeplponconnjaa.P
namespace Go.Proofs.Yteeplponconnjaa.P
open Go.RowKit Go.Proofs.YteeplponconnjaaW.PrintWords Go.Proofs.YteeplponconnjaaW.PrintLast Go.Proofs.YteeplponconnjaaW.PrintMore
attribute [local go_sem] max2_int min2_int max_two min_two max_three min_three max_four min_four
set_option linter.unusedVariables false
set_option linter.unusedSimpArgs false
def impl_ValidWord.l0 : Nat → ByteArray → Int → Int → Option (Bool)
 | 0, _, _, _ => none
 | k + 1, x0, x5, x6 => if x6 < x5 then (if 0 ≤ x6 then (if x6 < (x0.size : Int) then ((strings_IndexByte.f (⟨#[40, 91, 41, 93, 97, 98]⟩ : ByteArray) (bt x0 x6)).bind fun t221 => (if t221 < 0 then (some false) else (impl_ValidWord.l0 k x0 x5 (wrap64 (x6 + 1))))) else (none)) else (none)) else (some (decide ((x0.size : Int) ≤ 60)))
def impl_ValidWord.f (k : Nat) (a0 : ByteArray) : Option (Bool) := impl_ValidWord.l0 k a0 (a0.size : Int) 0
set_option maxHeartbeats 8000000 in
set_option maxRecDepth 100000 in
theorem impl_ValidWord.calls (k : Nat) (a0 : ByteArray) (r : Bool) (w : World) (h : impl_ValidWord.f k a0 = some r) :
  Calls Try.prog 23 #[.string a0] w fun e w' => e = .returned (.bool r) ∧ Drawn0 w w' := by
 have H : (impl_ValidWord.l0 k a0 (a0.size : Int) 0) = some r := h
 clear h
 have H' := AZ.mk H
 clear H
 go_enter Try.func23, Try.ntmps23
 go_wp2
 go_loopg [6] k (fun kq v6 w' => ∃ (x6_1 : Int), v6 = .int .i64 x6_1 ∧ AZ (impl_ValidWord.l0 kq a0 (a0.size : Int) x6_1 = some r) ∧ AZ (kq ≤ k) ∧ Drawn0 w w')
 case atStart => exact ⟨(0), (by first | rfl | (simp; done) | (simp [*]; done)), H', ⟨Nat.le_refl _⟩, by repeat (first | exact Drawn0.refl _ | apply Drawn0.step)⟩
 case round =>
  clear H'
  obtain ⟨x6_1, rfl, HA, HK1, ⟨m1, rfl⟩⟩ := hrel
  cases gk with
  | zero => exact absurd HA.out (by simp [impl_ValidWord.l0])
  | succ k1 =>
   have H := HA.out
   clear HA
   simp only [impl_ValidWord.l0] at H
   by_cases c2 : x6_1 < (a0.size : Int)
   rotate_left
   ·rw [if_neg c2] at H
    have c2b0 : decide (x6_1 < (a0.size : Int)) = false := decide_eq_false c2
    clear c2
    obtain rfl := Option.some.inj H
    go_wp2
    go_ret
    exact ⟨by first | rfl | (simp; done) | (simp [*]; done), by repeat (first | exact Drawn0.refl _ | apply Drawn0.step)⟩
   rw [if_pos c2] at H
   have c2b0 : decide (x6_1 < (a0.size : Int)) = true := decide_eq_true c2
   clear c2
   by_cases c3 : 0 ≤ x6_1
   rotate_left
   ·rw [if_neg c3] at H
    exact absurd H (by simp)
   rw [if_pos c3] at H
   have c3b0 : decide (0 ≤ x6_1) = true := decide_eq_true c3
   clear c3
   by_cases c4 : x6_1 < (a0.size : Int)
   rotate_left
   ·rw [if_neg c4] at H
    exact absurd H (by simp)
   rw [if_pos c4] at H
   have c4b0 : decide (x6_1 < (a0.size : Int)) = true := decide_eq_true c4
   clear c4
   replace H := Option.bind_eq_some_iff.mp H
   obtain ⟨t221, A60, H⟩ := H
   replace H : (if t221 < 0 then (some false) else (impl_ValidWord.l0 k1 a0 (a0.size : Int) (wrap64 (x6_1 + 1)))) = some r := H
   have A6 := AZ.mk A60
   clear A60
   by_cases c7 : t221 < 0
   ·rw [if_pos c7] at H
    have c7b0 : decide (t221 < 0) = true := decide_eq_true c7
    clear c7
    obtain rfl := Option.some.inj H
    have p5 : 0 ≤ (x6_1 : Int) := oT (by first | (with_reducible assumption) | assumption)
    have q5 : x6_1 < (a0.size : Int) := oT (by first | (with_reducible assumption) | assumption)
    have hx5 := bt_at a0 x6_1
    replace p5 := eq_true p5
    replace q5 := eq_true q5
    go_wp2_with (first | ((with_reducible refine gate_callee (f := 38) rfl ?_); refine goesL_ (some 12) rfl rfl Try.func38 (by kernel_rfl) rfl #[.string (⟨#[40, 91, 41, 93, 97, 98]⟩ : ByteArray), .int .u8 (bt a0 x6_1)] rfl (by (try simp only [List.map_toArray, List.map_cons, List.map_nil]); first | done | rfl | (simp only [List.length_drop, List.length_take]; rfl)) ?_; (with_reducible refine (strings_IndexByte.calls (⟨#[40, 91, 41, 93, 97, 98]⟩ : ByteArray) (bt a0 x6_1) t221 _ A6.out).mono ?_); rintro e w' ⟨rfl, ⟨nd, rfl⟩⟩; refine ⟨_, rfl, ?_⟩))
    go_ret
    exact ⟨by first | rfl | (simp; done) | (simp [*]; done), by repeat (first | exact Drawn0.refl _ | apply Drawn0.step)⟩
   rw [if_neg c7] at H
   have c7b0 : decide (t221 < 0) = false := decide_eq_false c7
   clear c7
   have H' := AZ.mk H
   clear H
   have p5 : 0 ≤ (x6_1 : Int) := oT (by first | (with_reducible assumption) | assumption)
   have q5 : x6_1 < (a0.size : Int) := oT (by first | (with_reducible assumption) | assumption)
   have hx5 := bt_at a0 x6_1
   replace p5 := eq_true p5
   replace q5 := eq_true q5
   go_wp2_with (first | ((with_reducible refine gate_callee (f := 38) rfl ?_); refine goesL_ (some 12) rfl rfl Try.func38 (by kernel_rfl) rfl #[.string (⟨#[40, 91, 41, 93, 97, 98]⟩ : ByteArray), .int .u8 (bt a0 x6_1)] rfl (by (try simp only [List.map_toArray, List.map_cons, List.map_nil]); first | done | rfl | (simp only [List.length_drop, List.length_take]; rfl)) ?_; (with_reducible refine (strings_IndexByte.calls (⟨#[40, 91, 41, 93, 97, 98]⟩ : ByteArray) (bt a0 x6_1) t221 _ A6.out).mono ?_); rintro e w' ⟨rfl, ⟨nd, rfl⟩⟩; refine ⟨_, rfl, ?_⟩))
   go_roundg k1
   case measure => have := HK1.out; omega
   case rel => exact ⟨(wrap64 (x6_1 + 1)), (by first | rfl | (simp; done) | (simp [*]; done)), H', ⟨by have := HK1.out; omega⟩, by repeat (first | exact Drawn0.refl _ | apply Drawn0.step)⟩
end Go.Proofs.Yteeplponconnjaa.P
namespace Go.Proofs.Yteeplponconnjaa.P
open Go.RowKit Go.Proofs.YteeplponconnjaaW.PrintWords Go.Proofs.YteeplponconnjaaW.PrintLast Go.Proofs.YteeplponconnjaaW.PrintMore
attribute [local go_sem] max2_int min2_int max_two min_two max_three min_three max_four min_four
set_option linter.unusedVariables false
set_option linter.unusedSimpArgs false
def slices_Clone_Limpl_QueryStep_impl_QueryStep.f (l0 : List (S62)) : Option (List (S62)) := if l0.length < 5864062014805 then some l0 else none
set_option maxHeartbeats 4000000 in
set_option maxRecDepth 100000 in
theorem slices_Clone_Limpl_QueryStep_impl_QueryStep.calls (A0 : Option Addr) (c0 : Nat) (l0 : List (S62)) (r : List (S62)) (w : World) (hr0 : Kd.C k62 w A0 l0.length l0) (hc0 : l0.length ≤ c0) (h : slices_Clone_Limpl_QueryStep_impl_QueryStep.f l0 = some r) :
  Calls Try.prog 39 #[.slice A0 l0.length c0] w fun e w' => ∃ v0_ : Value, e = .returned (v0_) ∧ Kd.R k62 62 w' w.heap.size (fun _ => True) v0_ r ∧ Below w.heap.size w w' := by
 unfold slices_Clone_Limpl_QueryStep_impl_QueryStep.f at h
 by_cases c2 : l0.length < 5864062014805
 rotate_left
 ·rw [if_neg c2] at h
  cases h
 rw [if_pos c2] at h
 obtain rfl := Option.some.inj h
 clear h
 have hu := Try.underlying28
 have hq : ∀ (w : World) (a : Option Addr) (n c n' c' : Nat), (binOp .eql 28 (.slice a n c) (.slice none n' c')).run Try.prog w = .ok (.bool a.isNone) w := fun w a n c n' c' => Lib.run_eql_slice_nil w _ _ a n c n' c' hu
 have HR0 := AZ.mk hr0
 have LM := AZ.mk c2
 clear hr0 c2
 rcases A0 with _ | ad
 ·have h0 : l0 = [] := by
   by_cases h1 : 0 < l0.length
   ·obtain ⟨ad, h, _⟩ := HR0.out.2.2 h1
    cases h
   ·exact List.length_eq_zero_iff.1 (by omega)
  go_enter Try.func39, Try.ntmps39
  go_wp2
  go_ret
  exact ⟨_, rfl, by rw [h0]; exact Kd.R_nil _ _ _ _ _, by repeat (first | exact Below.refl _ _ | apply pA | apply pN | apply pD)⟩
 ·have HB := AZ.mk (Below.refl w.heap.size w)
  go_enter Try.func39, Try.ntmps39
  go_wp2_with (first | ((with_reducible refine gate_dst (N := 5) rfl ?_); refine Kd.R_lit k62 _ 62 ?hg (N := 5) ?hd (xs := ([] : List (S62))) (inner := []) (ok := fun _ => True) (okp := fun _ => True) ?hr ?hp (fun _ hk => hk) trivial (Below.refl _ _) (Nat.le_refl _) (by simp) ?_; (case hd => rfl); (case hg => rfl); (case hr => first | (go_simp; done) | (go_simp; rfl)); (case hp => exact (Reps.none _ _)); intro v5 w5 ho5 hb5 hg_ hnew_; clear hg_ hnew_; have HO5 := AZ.mk (Kd.R_lower ho5 (pZ (by repeat (first | exact HB.out | apply pA | apply pN | apply pD)))); have HB5 := AZ.mk (pT (by repeat (first | exact HB.out | apply pA | apply pN | apply pD)) hb5); clear HB ho5 hb5; have HB := HB5; clear HB5; obtain ⟨Ao5, co5, eo5⟩ := Kd.R_slice HO5.out; subst eo5) | ((with_reducible refine gate_dst (N := 7) rfl ?_); refine Kd.R_append_rows k62 (w0 := w) w.heap.size rfl (.tmp 5) (.tmp 6) 28 62 (.agg #[(.bool false), (.string ⟨#[]⟩)]) 24 rfl Try.underlying28 info62 rfl (by decide) (by omega) _ ([] : List (S62)) l0 _ _ _ (fun _ => True) (fun _ => False) rfl rfl ?aO ?aR (fun _ _ h => h) (fun _ h => h.elim) ?aF ?aB ?aS ?aL ?_; (case aR => repeat (first | exact (Kd.C_below HR0.out HB.out) | (with_reducible refine Kd.C_alloc ?_ _) | (with_reducible refine Kd.C_drewN ?_ _) | (with_reducible refine Kd.C_drew ?_))); (case aB => exact (by repeat (first | exact HB.out | apply pA | apply pN | apply pD))); (case aF => exact (fun _ _ => trivial)); (case aO => exact (by (with_reducible repeat (first | apply Kd.R_alloc | apply Kd.R_drewN | apply Kd.R_drew)); exact HO5.out)); (case aS => exact (pZ (by repeat (first | exact HB.out | apply pA | apply pN | apply pD)))); (case aL => have := LM.out; simp; omega); intro v7 w7 ho hb hg hat; have HO7 := AZ.mk ho; have HB7 := AZ.mk hb; clear HB HO5 ho hb hg hat; have HB := HB7; clear HB7; obtain ⟨Ao7, co7, eo7⟩ := Kd.R_slice HO7.out; subst eo7))
  go_ret
  exact ⟨_, rfl, by (with_reducible repeat (first | apply Kd.R_alloc | apply Kd.R_drewN | apply Kd.R_drew)); exact HO7.out, by repeat (first | exact HB.out | apply pA | apply pN | apply pD)⟩
end Go.Proofs.Yteeplponconnjaa.P
namespace Go.Proofs.Yteeplponconnjaa.P
open Go.RowKit Go.Proofs.YteeplponconnjaaW.PrintWords Go.Proofs.YteeplponconnjaaW.PrintLast Go.Proofs.YteeplponconnjaaW.PrintMore
attribute [local go_sem] max2_int min2_int max_two min_two max_three min_three max_four min_four
set_option linter.unusedVariables false
set_option linter.unusedSimpArgs false
def impl_newWatcher.f (l0_0 : List (S62)) : Option ((List (S62)) × Int × List Int × (List (List Int))) := (slices_Clone_Limpl_QueryStep_impl_QueryStep.f l0_0).bind fun t224 => (some (t224, 0, (([0] : List Int)), ([] : List (List Int))))
set_option maxHeartbeats 8000000 in
set_option maxRecDepth 100000 in
theorem impl_newWatcher.calls (A0_0 : Option Addr) (c0_0 : Nat) (l0_0 : List (S62)) (r1 : List (S62)) (r2 : Int) (r3 : List Int) (r4 : List (List Int)) (w : World) (hr0_0 : Kd.C k62 w A0_0 l0_0.length l0_0) (hc0_0 : l0_0.length ≤ c0_0) (h : impl_newWatcher.f l0_0 = some (r1, r2, r3, r4)) :
  Calls Try.prog 24 #[.agg #[.slice A0_0 l0_0.length c0_0]] w fun e w' => ∃ v0_ v2_ v3_ : Value, e = .returned (.agg #[v0_, .int .i64 r2, v2_, v3_]) ∧ Kd.R k62 62 w' w.heap.size (fun _ => True) v0_ r1 ∧ Kd.R (Kd.int .i64) 2 w' w.heap.size (fun _ => True) v2_ r3 ∧ Kd.S (Kd.slice 2 (Kd.int .i64)) 34 w' w.heap.size (fun k_ => some k_ ≠ (v2_ : Value).ownBlock) v3_ r4 ∧ Below w.heap.size w w' := by
 have hu30 := Try.underlying30
 have hu51 := Try.underlying51
 have HR0_0 := AZ.mk hr0_0
 have HC0_0 := AZ.mk hc0_0
 clear hr0_0 hc0_0
 have HB := AZ.mk (Below.refl w.heap.size w)
 have H : ((slices_Clone_Limpl_QueryStep_impl_QueryStep.f l0_0).bind fun t224 => (some (t224, 0, (([0] : List Int)), ([] : List (List Int))))) = some (r1, r2, r3, r4) := h
 clear h
 replace H := Option.bind_eq_some_iff.mp H
 obtain ⟨t224, A20, H⟩ := H
 replace H : (some (t224, 0, (([0] : List Int)), ([] : List (List Int)))) = some (r1, r2, r3, r4) := H
 have A2 := AZ.mk A20
 clear A20
 obtain ⟨y227, hy227⟩ : ∃ y_ : List Int, y_ = (([0] : List Int)) := ⟨_, rfl⟩
 replace H : (some (t224, 0, y227, ([] : List (List Int)))) = some (r1, r2, r3, r4) := by first | (rw [hy227]; with_reducible exact H) | (have H2_ := (Option.bind_some _ _).symm.trans H; rw [hy227]; with_reducible exact H2_) | (have H2_ := (Option.bind_some _ _).symm.trans H; with_reducible exact H2_) | with_reducible exact H | (rw [hy227]; exact H) | exact H
 have Ny227 := AZ.mk hy227
 clear hy227
 simp only [Option.some.injEq, Prod.mk.injEq] at H
 obtain ⟨rfl, rfl, rfl, rfl⟩ := H
 go_enter Try.func24, Try.ntmps24
 go_wp2_with (first | ((with_reducible refine gate_dst (N := 1) rfl ?_); refine box_event ?hg (N := 1) ?hd (cs := #[.slice A0_0 l0_0.length c0_0]) (t := 30) ?hr ?_; (case hd => rfl); (case hg => rfl); (case hr => first | (go_simp; done) | (go_simp; rfl)); intro gb222 hg w3 hbox hb; have n0_ := AZ.mk (pT (by repeat (first | (with_reducible first | exact HB.out | apply pA | apply pN | apply pD) | exact HB.out)) hb); have n1_ := AZ.mk (hbox); have n2_ := AZ.mk ((by rw [hg]; exact (pZ (by repeat (first | (with_reducible first | exact HB.out | apply pA | apply pN | apply pD) | exact HB.out))) : w.heap.size ≤ gb222)); have n3_ := AZ.mk ((by rw [hg]; exact (pZ (by repeat (first | (with_reducible first | exact HB.out | apply pA | apply pN | apply pD) | exact HB.out))) : w.heap.size ≤ gb222)); clear HB; have HB := n0_; have BK222 := n1_; have GW222 := n2_; have GE222 := n3_; clear n0_ n1_ n2_ n3_; clear hb hbox hg) | ((with_reducible refine gate_dst (N := 2) rfl ?_); refine box_event ?hg (N := 2) ?hd (cs := #[.slice none 0 0, .int .i64 0, .slice none 0 0, .slice none 0 0]) (t := 51) ?hr ?_; (case hd => rfl); (case hg => rfl); (case hr => first | (go_simp; done) | (go_simp; rfl)); intro gb223 hg w4 hbox hb; have n0_ := AZ.mk (bb_ (g := gb222) (o := .cells #[.slice A0_0 l0_0.length c0_0] 30 (0, 0)) (by (with_reducible repeat (first | refine bn_ ?_ _ | refine bd_ ?_ | refine ba_ ?_ _)); exact BK222.out) hb); have n1_ := AZ.mk (pT (by repeat (first | (with_reducible first | exact HB.out | apply pA | apply pN | apply pD | refine pS ?_ GE222.out) | exact HB.out)) hb); have n2_ := AZ.mk (hbox); have n3_ := AZ.mk ((by rw [hg]; exact (pZ (by repeat (first | (with_reducible first | exact HB.out | apply pA | apply pN | apply pD | refine pS ?_ GE222.out) | exact HB.out))) : w.heap.size ≤ gb223)); have n4_ := AZ.mk ((by rw [hg]; exact (pZ (by repeat (first | (with_reducible first | exact HB.out | apply pA | apply pN | apply pD | refine pS ?_ GE222.out) | exact HB.out))) : w.heap.size ≤ gb223)); have n5_ := AZ.mk ((by rw [hg]; exact Nat.ne_of_lt (blk_lt (g := gb222) (o := .cells #[.slice A0_0 l0_0.length c0_0] 30 (0, 0)) (by (with_reducible repeat (first | refine bn_ ?_ _ | refine bd_ ?_ | refine ba_ ?_ _)); exact BK222.out)) : gb222 ≠ gb223)); have n6_ := AZ.mk ((by rw [hg]; exact Nat.ne_of_gt (blk_lt (g := gb222) (o := .cells #[.slice A0_0 l0_0.length c0_0] 30 (0, 0)) (by (with_reducible repeat (first | refine bn_ ?_ _ | refine bd_ ?_ | refine ba_ ?_ _)); exact BK222.out)) : gb223 ≠ gb222)); clear BK222; clear HB; have BK222 := n0_; have HB := n1_; have BK223 := n2_; have GW223 := n3_; have GE223 := n4_; have NB222_223 := n5_; have NB223_222 := n6_; clear n0_ n1_ n2_ n3_ n4_ n5_ n6_; clear hb hbox hg; have hnb5 := NB222_223.out; have hnc5 := NB223_222.out; have hcz6_0 : w4.cell? ⟨gb222, 0, none⟩ = some (.slice A0_0 l0_0.length c0_0) := (bc BK222.out 0).trans rfl; have hfz6_0 := bf BK222.out 0) | ((with_reducible refine gate_callee (f := 39) rfl ?_); refine goesL_ (some 5) rfl rfl Try.func39 (by kernel_rfl) rfl #[.slice A0_0 l0_0.length c0_0] rfl (by (try simp only [List.map_toArray, List.map_cons, List.map_nil]); first | done | rfl | (simp only [List.length_drop, List.length_take]; rfl)) ?_; (with_reducible refine (slices_Clone_Limpl_QueryStep_impl_QueryStep.calls _ _ l0_0 t224 _ ?side1 ?side2 A2.out).mono ?_); (case side1 => repeat (first | exact (Kd.C_below HR0_0.out HB.out) | (with_reducible refine Kd.C_alloc ?_ _) | (with_reducible refine Kd.C_drewN ?_ _) | (with_reducible refine Kd.C_drew ?_))); (case side2 => exact HC0_0.out); rintro e w7 ⟨v225, rfl, ho0, hb⟩; refine ⟨_, rfl, ?_⟩; have n0_ := AZ.mk (Kd.R_lower ho0 (pZ (by repeat (first | (with_reducible first | exact HB.out | apply pA | apply pN | apply pD | refine pS ?_ GE222.out | refine pS ?_ GE223.out) | exact HB.out)))); have n1_ := AZ.mk (bb_ (g := gb222) (o := .cells #[.slice A0_0 l0_0.length c0_0] 30 (0, 0)) (by (with_reducible repeat (first | refine bn_ ?_ _ | refine bd_ ?_ | refine ba_ ?_ _)); exact BK222.out) hb); have n2_ := AZ.mk (bb_ (g := gb223) (o := .cells #[.slice none 0 0, .int .i64 0, .slice none 0 0, .slice none 0 0] 51 (0, 0)) (by (with_reducible repeat (first | refine bn_ ?_ _ | refine bd_ ?_ | refine ba_ ?_ _)); exact BK223.out) hb); have n3_ := AZ.mk (pT (by repeat (first | (with_reducible first | exact HB.out | apply pA | apply pN | apply pD | refine pS ?_ GE222.out | refine pS ?_ GE223.out) | exact HB.out)) hb); clear BK222; clear BK223; clear HB; have HO226 := n0_; have BK222 := n1_; have BK223 := n2_; have HB := n3_; clear n0_ n1_ n2_ n3_; (try clear hb); (try clear hb2); (try clear hk); (try clear hi); (try clear ho0); obtain ⟨Ao8, co8, eo8⟩ := Kd.R_slice HO226.out; subst eo8) | ((with_reducible refine gate_dst (N := 7) rfl ?_); refine Kd.R_lit (Kd.int .i64) _ 2 ?hg (N := 7) ?hd (xs := ([0] : List Int)) (inner := [.int .i64 0]) (ok := fun _ => True) (okp := fun _ => True) ?hr ?hp (fun _ hk => hk) trivial (Below.refl _ _) (Nat.le_refl _) (by simp) ?_; (case hd => rfl); (case hg => rfl); (case hr => first | (go_simp; done) | (go_simp; rfl)); (case hp => exact (Reps.one (show Kd.M (Kd.int .i64) _ _ _ 0 [.int .i64 0] from rfl) (Reps.none _ _))); intro v228 w9 ho10 hb hg_ hnew_; clear hg_ hnew_; (first | rw [← Ny227.out] at ho10 | (simp only [Int.reduceToNat] at ho10; rw [← Ny227.out] at ho10)); have n0_ := AZ.mk (Kd.R_below (by (with_reducible repeat (first | apply Kd.R_alloc | apply Kd.R_drewN | apply Kd.R_drew)); exact HO226.out) hb); have n1_ := AZ.mk (Kd.R_lower ho10 (pZ (by repeat (first | (with_reducible first | exact HB.out | apply pA | apply pN | apply pD | refine pS ?_ GE222.out | refine pS ?_ GE223.out) | exact HB.out)))); have n2_ := AZ.mk (bb_ (g := gb222) (o := .cells #[.slice A0_0 l0_0.length c0_0] 30 (0, 0)) (by (with_reducible repeat (first | refine bn_ ?_ _ | refine bd_ ?_ | refine ba_ ?_ _)); exact BK222.out) hb); have n3_ := AZ.mk (bb_ (g := gb223) (o := .cells #[.slice none 0 0, .int .i64 0, .slice none 0 0, .slice none 0 0] 51 (0, 0)) (by (with_reducible repeat (first | refine bn_ ?_ _ | refine bd_ ?_ | refine ba_ ?_ _)); exact BK223.out) hb); have n4_ := AZ.mk (pT (by repeat (first | (with_reducible first | exact HB.out | apply pA | apply pN | apply pD | refine pS ?_ GE222.out | refine pS ?_ GE223.out) | exact HB.out)) hb); clear HO226; clear BK222; clear BK223; clear HB; have HO226 := n0_; have HO229 := n1_; have BK222 := n2_; have BK223 := n3_; have HB := n4_; clear n0_ n1_ n2_ n3_ n4_; clear hb ho10; obtain ⟨Ao11, co11, eo11⟩ := Kd.R_slice HO229.out; subst eo11; have hcz12_0 : w9.cell? ⟨gb223, 0, none⟩ = some (.slice none 0 0) := (bc BK223.out 0).trans rfl; have hcz12_1 : w9.cell? ⟨gb223, 1, none⟩ = some (.int .i64 0) := (bc BK223.out 1).trans rfl; have hcz12_2 : w9.cell? ⟨gb223, 2, none⟩ = some (.slice none 0 0) := (bc BK223.out 2).trans rfl; have hcz12_3 : w9.cell? ⟨gb223, 3, none⟩ = some (.slice none 0 0) := (bc BK223.out 3).trans rfl; have hfz12_0 := bf BK223.out 0; have hfz12_1 := bf BK223.out 1; have hfz12_2 := bf BK223.out 2; have hfz12_3 := bf BK223.out 3))
 refine bodyPost_ret (results_cell_row rfl _ _ gb223 51 #[.slice Ao8 t224.length co8, .int .i64 0, .slice Ao11 y227.length co11, .slice none 0 0] (0, 0) _ rfl (by (with_reducible repeat (first | refine bn_ ?_ _ | refine bd_ ?_ | refine ba_ ?_ _)); refine blk_put (cs := #[.slice Ao8 t224.length co8, .int .i64 0, .slice Ao11 y227.length co11, .slice none 0 0]) ?_ 3 _ rfl; (with_reducible repeat (first | refine bn_ ?_ _ | refine bd_ ?_ | refine ba_ ?_ _)); refine blk_put (cs := #[.slice Ao8 t224.length co8, .int .i64 0, .slice none 0 0, .slice none 0 0]) ?_ 2 _ rfl; (with_reducible repeat (first | refine bn_ ?_ _ | refine bd_ ?_ | refine ba_ ?_ _)); refine blk_put (cs := #[.slice Ao8 t224.length co8, .int .i64 0, .slice none 0 0, .slice none 0 0]) ?_ 1 _ rfl; (with_reducible repeat (first | refine bn_ ?_ _ | refine bd_ ?_ | refine ba_ ?_ _)); refine blk_put (cs := #[.slice none 0 0, .int .i64 0, .slice none 0 0, .slice none 0 0]) ?_ 0 _ rfl; (with_reducible repeat (first | refine bn_ ?_ _ | refine bd_ ?_ | refine ba_ ?_ _)); exact BK223.out) Try.underlying51 rfl (by kernel_rfl)) rfl ?_
 exact ⟨_, _, _, by first | rfl | (simp [errW_none, errW_some] <;> rfl) | (simp [*, errW_none, errW_some] <;> rfl), by (with_reducible repeat (first | apply Kd.R_alloc | apply Kd.R_drewN | apply Kd.R_drew)); exact Kd.R_mono (Kd.R_far (p := ⟨gb223, 3, none⟩) (Kd.R_far (p := ⟨gb223, 2, none⟩) (Kd.R_far (p := ⟨gb223, 1, none⟩) (Kd.R_far (p := ⟨gb223, 0, none⟩) (Kd.R_types HO226.out BK223.out (by decide)) (fun _ hk => hk.2) (.slice Ao8 t224.length co8)) (fun _ hk => hk.2) (.int .i64 0)) (fun _ hk => hk.2) (.slice Ao11 y227.length co11)) (fun _ hk => hk.2) (.slice none 0 0)) (fun _ hk => trivial), by (with_reducible repeat (first | apply Kd.R_alloc | apply Kd.R_drewN | apply Kd.R_drew)); exact Kd.R_mono (Kd.R_far (p := ⟨gb223, 3, none⟩) (Kd.R_far (p := ⟨gb223, 2, none⟩) (Kd.R_far (p := ⟨gb223, 1, none⟩) (Kd.R_far (p := ⟨gb223, 0, none⟩) (Kd.R_types HO229.out BK223.out (by decide)) (fun _ hk => hk.2) (.slice Ao8 t224.length co8)) (fun _ hk => hk.2) (.int .i64 0)) (fun _ hk => hk.2) (.slice Ao11 y227.length co11)) (fun _ hk => hk.2) (.slice none 0 0)) (fun _ hk => trivial), by first | exact Kd.S_nil _ _ _ _ _ | exact Kd.N_nil _ _ _ _ _ | exact Kd.V_nil _ _ _ _ _ | exact Kd.Q_nil _ _ _ _ _ | exact Kd.R_nil _ _ _ _ _, by repeat (first | (with_reducible first | exact HB.out | apply pA | apply pN | apply pD | refine pS ?_ GE222.out | refine pS ?_ GE223.out) | exact HB.out)⟩
end Go.Proofs.Yteeplponconnjaa.P
namespace Go.Proofs.Yteeplponconnjaa.P
open Go.RowKit Go.Proofs.YteeplponconnjaaW.PrintWords Go.Proofs.YteeplponconnjaaW.PrintLast Go.Proofs.YteeplponconnjaaW.PrintMore
attribute [local go_sem] max2_int min2_int max_two min_two max_three min_three max_four min_four
set_option linter.unusedVariables false
set_option linter.unusedSimpArgs false
open Go.Proofs.Yteeplponconnjaa.Wa
def wstep (k : Nat) (steps : List S62) (c : Int) (i : Nat) (s : List Int × List (List Int) × List Int) : Option (List Int × List (List Int) × List Int) :=
 (impl_Query_isAnswer.f k steps s.1 c).bind fun an => (impl_isCall.f c).bind fun cl =>
  if cl = true then (impl_Query_within.f k steps s.1 c).bind fun n => some (n, s.2.1 ++ [s.1], if an = true then s.2.2 ++ [(i : Int)] else s.2.2)
  else (impl_isReturn.f c).bind fun rt =>
   if rt = true then (if 0 < s.2.1.length then some (s.2.1.getD (s.2.1.length - 1) [], s.2.1.take (s.2.1.length - 1), if an = true then s.2.2 ++ [(i : Int)] else s.2.2) else some (s.1, s.2.1, if an = true then s.2.2 ++ [(i : Int)] else s.2.2))
   else some (s.1, s.2.1, if an = true then s.2.2 ++ [(i : Int)] else s.2.2)
def wrun (k : Nat) (steps : List S62) (a : ByteArray) : Nat → Option (List Int × List (List Int) × List Int)
 | 0 => some ([0], [], [])
 | i + 1 => (wrun k steps a i).bind (wstep k steps (bt a (i : Int)) i)
def impl_AnswersOf.f (k : Nat) (l0_0 : List S62) (a1 : ByteArray) : Option (List Int × Int) := (impl_ValidQuery.f k l0_0).bind fun t => if t = true then ((impl_ValidWord.f k a1).bind fun u => if u = true then (if a1.size ≤ 1048576 then ((wrun k l0_0 a1 a1.size).bind fun s => (impl_newWatcher.f l0_0).bind fun _ => some (s.2.2, 0)) else none) else some ([], 1)) else some ([], 1)
def st_ (k : Nat) (steps : List S62) (a : ByteArray) (i : Nat) : List Int × List (List Int) × List Int := (wrun k steps a i).getD ([0], [], [])
section
variable (k : Nat) (steps : List S62) (a : ByteArray)
theorem wrun_some : ∀ n, (wrun k steps a n).isSome = true → ∀ i, i ≤ n → wrun k steps a i = some (st_ k steps a i)
 | n, h, i, hi => by
  rcases Nat.lt_or_ge i n with hlt | hge
  ·obtain ⟨n, rfl⟩ : ∃ m, n = m + 1 := ⟨n - 1, by omega⟩
   refine wrun_some n ?_ i (by omega)
   cases e : wrun k steps a n with
   | none => rw [wrun, e] at h; cases h
   | some s => rfl
  ·obtain rfl : i = n := by omega
   obtain ⟨s, e⟩ := Option.isSome_iff_exists.1 h
   unfold st_; rw [e]; rfl
theorem st_next (h : (wrun k steps a a.size).isSome = true) (i : Nat) (hi : i < a.size) : wstep k steps (bt a (i : Int)) i (st_ k steps a i) = some (st_ k steps a (i + 1)) := by
 have h1 := wrun_some k steps a _ h (i + 1) hi
 have h0 := wrun_some k steps a _ h i (by omega)
 rw [wrun, h0] at h1
 exact h1
theorem st_step (h : (wrun k steps a a.size).isSome = true) : ∀ i, i < a.size → Step k a steps (fun i => (st_ k steps a i).1) (fun i => (st_ k steps a i).2.1) (fun i => (st_ k steps a i).2.2) i := by
 intro i hi
 have hs := st_next k steps a h i hi
 unfold Step
 dsimp only
 unfold wstep at hs
 obtain ⟨an, h1, hs⟩ := Option.bind_eq_some_iff.1 hs
 obtain ⟨cl, h2, hs⟩ := Option.bind_eq_some_iff.1 hs
 refine ⟨an, h1, ?_⟩
 cases cl with
 | true =>
  rw [if_pos rfl] at hs
  obtain ⟨n, h3, hs⟩ := Option.bind_eq_some_iff.1 hs
  have hs := (Option.some.inj hs).symm
  exact ⟨by rw [hs], .inl ⟨h2, by rw [hs]; exact h3, by rw [hs]⟩⟩
 | false =>
  rw [if_neg (by decide)] at hs
  obtain ⟨rt, h3, hs⟩ := Option.bind_eq_some_iff.1 hs
  cases rt with
  | true =>
   rw [if_pos rfl] at hs
   by_cases hl : 0 < (st_ k steps a i).2.1.length
   ·rw [if_pos hl] at hs
    have hs := (Option.some.inj hs).symm
    exact ⟨by rw [hs], .inr ⟨h2, .inl ⟨h3, hl, by rw [hs], by rw [hs]⟩⟩⟩
   ·rw [if_neg hl] at hs
    have hs := (Option.some.inj hs).symm
    exact ⟨by rw [hs], .inr ⟨h2, .inr (.inl ⟨h3, by omega, by rw [hs], by rw [hs]⟩)⟩⟩
  | false =>
   rw [if_neg (by decide)] at hs
   have hs := (Option.some.inj hs).symm
   exact ⟨by rw [hs], .inr ⟨h2, .inr (.inr ⟨h3, by rw [hs], by rw [hs]⟩)⟩⟩
theorem st_out (h : (wrun k steps a a.size).isSome = true) : ∀ i, i ≤ a.size → (st_ k steps a i).2.2.length ≤ i := by
 intro i
 induction i with
 | zero => intro _; exact Nat.le_refl 0
 | succ i ih =>
  intro hi
  obtain ⟨an, _, ho, _⟩ := st_step k steps a h i hi
  have h9 := ih (by omega)
  simp only at ho
  rw [ho]
  split
  ·simp; exact h9
  ·omega
theorem st_stk (h : (wrun k steps a a.size).isSome = true) : ∀ i, i ≤ a.size → (st_ k steps a i).2.1.length ≤ i := by
 intro i
 induction i with
 | zero => intro _; exact Nat.le_refl 0
 | succ i ih =>
  intro hi
  obtain ⟨an, _, _, hx⟩ := st_step k steps a h i hi
  have h9 := ih (by omega)
  simp only at hx
  rcases hx with ⟨_, _, hk⟩ | ⟨_, ⟨_, _, _, hk⟩ | ⟨_, _, _, hk⟩ | ⟨_, _, hk⟩⟩ <;> rw [hk]
  ·simp; exact h9
  ·simp; omega
  ·omega
  ·omega
end
theorem size51 : (Try.prog.info? 51).map (·.size) = some 4 := by kernel_rfl
theorem store51 {ops : Array Oper} {rest : List Oper} {o : Oper} {a : Act} {Q : Exit → Act → World → Prop} {W : World} (hgd : o.guard = none) (p v : Tmp) (ho : o.op = .store 51 (.tmp p) (.tmp v)) {g : Nat} {old cs : Array Value} (hx : a.eval (.tmp p) = .pointer (some ⟨g, 0, none⟩)) (hy : a.eval (.tmp v) = .agg cs) (hb : W.heap[g]? = some (.cells old 51 (0, 0)))
  (hs : cs.size = 4) (hs0 : old.size = 4) (h1 : cs.all (·.oneCell') = true)
  (h : ∀ w', w'.heap[g]? = some (.cells cs 51 (0, 0)) → (∀ B w0, Below B w0 W → B ≤ g → Below B w0 w') → (∀ k, k ≠ g → w'.heap[k]? = W.heap[k]?) → wpList Try.prog ops Q rest (a.put o.dst undef) w') : wpList Try.prog ops Q (o :: rest) a W := by
 refine wpList_plain hgd fun K hK => wp_store_row 51 _ _ ho g cs hx hy 51 old hb (by rw [size51, hs]) (by omega) h1 ?_
 exact hK _ _ (h _ (setRow_heap _ _ _ _ _ _ hb) (fun B w0 hB hle => hB.trans ⟨rfl, rfl, rfl, by simp, fun k hk => setRow_other _ _ _ _ (by omega)⟩) (fun k hk => setRow_other _ _ _ _ hk))
section
variable {W W2 w0 : World} {B gX : Nat} {ok1 ok2 ok3 : Nat → Prop} {vq vN vS : Value} {steps : List S62} {now : List Int} {old : Array Value}
theorem four_one (hq : k62.R 62 W B ok1 vq steps) (hn : (Kd.int .i64).R 2 W B ok2 vN now) (hs : Kd.S (Kd.slice 2 (Kd.int .i64)) 34 W B ok3 vS []) : (#[vq, .int .i64 0, vN, vS] : Array Value).all (·.oneCell') = true := by
 obtain ⟨A, c, rfl⟩ := Kd.R_slice hq
 obtain ⟨A2, c2, rfl⟩ := Kd.R_slice hn
 obtain ⟨A3, c3, rfl⟩ := Kd.R_slice (Kd.S_R hs)
 simp [Array.all_eq_true_iff_forall_mem, Value.oneCell']
theorem start_rows (hq : k62.R 62 W B ok1 vq steps) (hn : (Kd.int .i64).R 2 W B ok2 vN now) (hs : Kd.S (Kd.slice 2 (Kd.int .i64)) 34 W B ok3 vS []) (hb : W.heap[gX]? = some (.cells old 51 (0, 0))) (hx : W2.heap[gX]? = some (.cells #[vq, .int .i64 0, vN, vS] 51 (0, 0))) (hB : Below B w0 W2) (hg : B ≤ gX) (hf : ∀ k, k ≠ gX → W2.heap[k]? = W.heap[k]?) :
  Wt k62 2 34 62 51 w0 W2 B gX #[vq, .int .i64 0, vN, vS] vq vN vS (.slice none 0 0) steps now [] [] := by
 refine Wt.start (by rfl) hB hg hx (Kd.R_step (Kd.R_types hq hb ?_) (fun k hk _ => hf k hk.2)) (Kd.R_step (Kd.R_types hn hb ?_) (fun k hk _ => hf k hk.2)) (Kd.S_step (Kd.S_types hs hb ?_) (fun k hk _ => hf k hk.2)) <;> decide
end
theorem nw_eq {l : List S62} {r1 : List S62} {r2 : Int} {r3 : List Int} {r4 : List (List Int)} (h : impl_newWatcher.f l = some (r1, r2, r3, r4)) : l = r1 ∧ r2 = 0 ∧ r3 = [0] ∧ r4 = [] := by
 unfold impl_newWatcher.f at h
 obtain ⟨t, h1, h⟩ := Option.bind_eq_some_iff.1 h
 unfold slices_Clone_Limpl_QueryStep_impl_QueryStep.f at h1
 split at h1
 ·simp only [Option.some.injEq, Prod.mk.injEq] at h h1
  obtain ⟨h2, h3, h4, h5⟩ := h
  exact ⟨h1.trans h2, h3.symm, h4.symm, h5.symm⟩
 ·cases h1
set_option maxHeartbeats 4000000 in
set_option maxRecDepth 100000 in
theorem impl_AnswersOf.calls (k : Nat) (A0_0 : Option Addr) (c0_0 : Nat) (l0_0 : List (S62)) (a1 : ByteArray) (r1 : List Int) (r2 : Int) (w : World) (hr0_0 : Kd.C k62 w A0_0 l0_0.length l0_0) (hc0_0 : l0_0.length ≤ c0_0) (h : impl_AnswersOf.f k l0_0 a1 = some (r1, r2)) :
  Calls Try.prog 11 #[.agg #[.slice A0_0 l0_0.length c0_0], .string a1] w fun e w' => ∃ v0_ : Value, e = .returned (.tuple #[v0_, .int .i64 r2]) ∧ Kd.R (Kd.int .i64) 2 w' w.heap.size (fun _ => True) v0_ r1 ∧ Below w.heap.size w w' := by
 have hu30 := Try.underlying30
 have hu51 := Try.underlying51
 have HR0_0 := AZ.mk hr0_0
 have HC0_0 := AZ.mk hc0_0
 have HB := AZ.mk (Below.refl w.heap.size w)
 unfold impl_AnswersOf.f at h
 obtain ⟨t, hq, h⟩ := Option.bind_eq_some_iff.1 h
 have HQ := AZ.mk hq
 clear hr0_0 hc0_0 hq
 cases t with
 | false =>
  rw [if_neg (by decide)] at h
  simp only [Option.some.injEq, Prod.mk.injEq] at h
  obtain ⟨rfl, rfl⟩ := h
  go_enter Try.func11, Try.ntmps11
  go_wp2_with (first | ((with_reducible refine gate_dst (N := 2) rfl ?_); refine box_event ?hg (N := 2) ?hd (cs := #[.slice A0_0 l0_0.length c0_0]) (t := 30) ?hr ?_; (case hd => rfl); (case hg => rfl); (case hr => first | (go_simp; done) | (go_simp; rfl)); intro gQ hg WgQ hbx hb; have BQ := AZ.mk hbx; have n0_ := AZ.mk (pT HB.out hb); clear HB; have HB := n0_; clear n0_; clear hb hbx hg; have hc_ := (bc BQ.out 0).trans rfl) | ((with_reducible refine gate_callee (f := 22) rfl ?_); (try (refine gate_guard (by rfl) ?_; dsimp only)); refine goesL_ (some 8) rfl rfl Try.func22 (by kernel_rfl) rfl #[.agg #[.slice A0_0 l0_0.length c0_0]] rfl (by (try simp only [List.map_toArray, List.map_cons, List.map_nil]); first | done | rfl) ?_; refine (impl_ValidQuery.calls k A0_0 c0_0 l0_0 false _ (Kd.C_below HR0_0.out HB.out) HC0_0.out HQ.out).mono ?_; rintro e W8 ⟨rfl, hb⟩; refine ⟨_, rfl, ?_⟩; have n0_ := AZ.mk (pT HB.out hb); have n1_ := AZ.mk (bb_ BQ.out hb); clear HB BQ; have HB := n0_; have BQ := n1_; clear n0_ n1_; clear hb hc_; have hc_ := (bc BQ.out 0).trans rfl))
  go_ret2
  exact ⟨_, rfl, Kd.R_nil _ _ _ _ _, HB.out⟩
 | true =>
  rw [if_pos rfl] at h
  obtain ⟨u, hv, h⟩ := Option.bind_eq_some_iff.1 h
  have HV := AZ.mk hv
  clear hv
  cases u with
  | false =>
   rw [if_neg (by decide)] at h
   simp only [Option.some.injEq, Prod.mk.injEq] at h
   obtain ⟨rfl, rfl⟩ := h
   go_enter Try.func11, Try.ntmps11
   go_wp2_with (first | ((with_reducible refine gate_dst (N := 2) rfl ?_); refine box_event ?hg (N := 2) ?hd (cs := #[.slice A0_0 l0_0.length c0_0]) (t := 30) ?hr ?_; (case hd => rfl); (case hg => rfl); (case hr => first | (go_simp; done) | (go_simp; rfl)); intro gQ hg WgQ hbx hb; have BQ := AZ.mk hbx; have n0_ := AZ.mk (pT HB.out hb); clear HB; have HB := n0_; clear n0_; clear hb hbx hg; have hc_ := (bc BQ.out 0).trans rfl) | ((with_reducible refine gate_callee (f := 22) rfl ?_); (try (refine gate_guard (by rfl) ?_; dsimp only)); refine goesL_ (some 8) rfl rfl Try.func22 (by kernel_rfl) rfl #[.agg #[.slice A0_0 l0_0.length c0_0]] rfl (by (try simp only [List.map_toArray, List.map_cons, List.map_nil]); first | done | rfl) ?_; refine (impl_ValidQuery.calls k A0_0 c0_0 l0_0 true _ (Kd.C_below HR0_0.out HB.out) HC0_0.out HQ.out).mono ?_; rintro e W8 ⟨rfl, hb⟩; refine ⟨_, rfl, ?_⟩; have n0_ := AZ.mk (pT HB.out hb); have n1_ := AZ.mk (bb_ BQ.out hb); clear HB BQ; have HB := n0_; have BQ := n1_; clear n0_ n1_; clear hb hc_; have hc_ := (bc BQ.out 0).trans rfl) | ((with_reducible refine gate_callee (f := 23) rfl ?_); (try (refine gate_guard (by rfl) ?_; dsimp only)); refine goesL_ (some 12) rfl rfl Try.func23 (by kernel_rfl) rfl #[.string a1] rfl (by (try simp only [List.map_toArray, List.map_cons, List.map_nil]); first | done | rfl) ?_; refine (impl_ValidWord.calls k a1 false _ HV.out).mono ?_; rintro e W12 ⟨rfl, hd⟩; refine ⟨_, rfl, ?_⟩; have hb := hd.below; have n0_ := AZ.mk (pT HB.out hb); have n1_ := AZ.mk (bb_ BQ.out hb); clear HB BQ; have HB := n0_; have BQ := n1_; clear n0_ n1_; clear hb hd hc_; have hc_ := (bc BQ.out 0).trans rfl))
   go_ret2
   exact ⟨_, rfl, Kd.R_nil _ _ _ _ _, HB.out⟩
  | true =>
   rw [if_pos rfl] at h
   by_cases hsz : a1.size ≤ 1048576
   rotate_left
   ·rw [if_neg hsz] at h
    cases h
   rw [if_pos hsz] at h
   obtain ⟨s, hr, h⟩ := Option.bind_eq_some_iff.1 h
   obtain ⟨⟨r1', r2', r3', r4'⟩, hn, h⟩ := Option.bind_eq_some_iff.1 h
   simp only [Option.some.injEq, Prod.mk.injEq] at h
   obtain ⟨rfl, rfl⟩ := h
   have es : st_ k l0_0 a1 a1.size = s := by unfold st_; rw [hr]; rfl
   have HS := AZ.mk es
   have HSZ := AZ.mk hsz
   have HRU := AZ.mk (show (wrun k l0_0 a1 a1.size).isSome = true by rw [hr]; rfl)
   have HW := AZ.mk hn
   have HE := AZ.mk (nw_eq hn)
   clear es hsz hr hn
   go_enter Try.func11, Try.ntmps11
   go_wp2_with (first | ((with_reducible refine gate_dst (N := 2) rfl ?_); refine box_event ?hg (N := 2) ?hd (cs := #[.slice A0_0 l0_0.length c0_0]) (t := 30) ?hr ?_; (case hd => rfl); (case hg => rfl); (case hr => first | (go_simp; done) | (go_simp; rfl)); intro gQ hg WgQ hbx hb; have BQ := AZ.mk hbx; have n0_ := AZ.mk (pT HB.out hb); clear HB; have HB := n0_; clear n0_; clear hb hbx hg; have hc_ := (bc BQ.out 0).trans rfl) | ((with_reducible refine gate_callee (f := 22) rfl ?_); (try (refine gate_guard (by rfl) ?_; dsimp only)); refine goesL_ (some 8) rfl rfl Try.func22 (by kernel_rfl) rfl #[.agg #[.slice A0_0 l0_0.length c0_0]] rfl (by (try simp only [List.map_toArray, List.map_cons, List.map_nil]); first | done | rfl) ?_; refine (impl_ValidQuery.calls k A0_0 c0_0 l0_0 true _ (Kd.C_below HR0_0.out HB.out) HC0_0.out HQ.out).mono ?_; rintro e W8 ⟨rfl, hb⟩; refine ⟨_, rfl, ?_⟩; have n0_ := AZ.mk (pT HB.out hb); have n1_ := AZ.mk (bb_ BQ.out hb); clear HB BQ; have HB := n0_; have BQ := n1_; clear n0_ n1_; clear hb hc_; have hc_ := (bc BQ.out 0).trans rfl) | ((with_reducible refine gate_callee (f := 23) rfl ?_); (try (refine gate_guard (by rfl) ?_; dsimp only)); refine goesL_ (some 12) rfl rfl Try.func23 (by kernel_rfl) rfl #[.string a1] rfl (by (try simp only [List.map_toArray, List.map_cons, List.map_nil]); first | done | rfl) ?_; refine (impl_ValidWord.calls k a1 true _ HV.out).mono ?_; rintro e W12 ⟨rfl, hd⟩; refine ⟨_, rfl, ?_⟩; have hb := hd.below; have n0_ := AZ.mk (pT HB.out hb); have n1_ := AZ.mk (bb_ BQ.out hb); clear HB BQ; have HB := n0_; have BQ := n1_; clear n0_ n1_; clear hb hd hc_; have hc_ := (bc BQ.out 0).trans rfl) | ((with_reducible refine gate_callee (f := 24) rfl ?_); (try (refine gate_guard (by rfl) ?_; dsimp only)); refine goesL_ (some 16) rfl rfl Try.func24 (by kernel_rfl) rfl #[.agg #[.slice A0_0 l0_0.length c0_0]] rfl (by (try simp only [List.map_toArray, List.map_cons, List.map_nil]); first | done | rfl) ?_; refine (impl_newWatcher.calls A0_0 c0_0 l0_0 r1' r2' r3' r4' _ (Kd.C_below HR0_0.out HB.out) HC0_0.out HW.out).mono ?_; rintro e W16 ⟨vq, vN, vS, rfl, hq, hn, hs, hb⟩; refine ⟨_, rfl, ?_⟩; obtain ⟨rfl, rfl, rfl, rfl⟩ := HE.out; obtain ⟨Aq, cq, eq_, hlq, -⟩ := Kd.R_reads hq; subst eq_; have LQ := AZ.mk hlq; clear hlq; have HQQ := AZ.mk (Kd.R_lower hq (pZ HB.out)); have HNN := AZ.mk (Kd.R_lower hn (pZ HB.out)); have HSS := AZ.mk (Kd.S_lower hs (pZ HB.out)); have n0_ := AZ.mk (pT HB.out hb); have n1_ := AZ.mk (bb_ BQ.out hb); clear HB BQ; have HB := n0_; have BQ := n1_; clear n0_ n1_; clear hq hn hs hb hc_ HE HW) | ((with_reducible refine gate_dst (N := 6) rfl ?_); refine box_event ?hg (N := 6) ?hd (cs := #[.slice none 0 0, .int .i64 0, .slice none 0 0, .slice none 0 0]) (t := 51) ?hr ?_; (case hd => rfl); (case hg => rfl); (case hr => first | (go_simp; done) | (go_simp; rfl)); intro gX hg WgX hbx hb; have BX := AZ.mk hbx; have GX := AZ.mk (show w.heap.size ≤ gX by rw [hg]; exact pZ HB.out); have n0_ := AZ.mk (pT HB.out hb); have n1_ := AZ.mk (Kd.R_below HQQ.out hb); have n2_ := AZ.mk (Kd.R_below HNN.out hb); have n3_ := AZ.mk (Kd.S_below HSS.out hb); clear HB HQQ HNN HSS; have HB := n0_; have HQQ := n1_; have HNN := n2_; have HSS := n3_; clear n0_ n1_ n2_ n3_; clear hb hbx hg) | ((with_reducible refine gate_ (.store 51 (.tmp 6) (.tmp 16)) rfl ?_); refine store51 rfl 6 16 rfl (g := gX) (old := #[.slice none 0 0, .int .i64 0, .slice none 0 0, .slice none 0 0]) (cs := #[.slice Aq l0_0.length cq, .int .i64 0, vN, vS]) rfl rfl BX.out rfl rfl (four_one HQQ.out HNN.out HSS.out) ?_; intro w9 hbx hB hfar; have ht := start_rows HQQ.out HNN.out HSS.out BX.out hbx (hB _ _ HB.out GX.out) GX.out hfar; have WT := AZ.mk ht; clear ht hbx hB hfar HQQ HNN HSS BX HB BQ) | ((with_reducible refine gate_callee (f := 25) rfl ?_); (try (refine gate_guard (by rfl) ?_; dsimp only)); refine goesL_ (some 18) rfl rfl Try.func25 (by kernel_rfl) rfl #[.pointer (some ⟨gX, 0, none⟩), .string a1] rfl (by (try simp only [List.map_toArray, List.map_cons, List.map_nil]); first | done | rfl) ?_; refine (watch_calls k a1 l0_0 (fun i => (st_ k l0_0 a1 i).1) (fun i => (st_ k l0_0 a1 i).2.1) (fun i => (st_ k l0_0 a1 i).2.2) HSZ.out (st_out k l0_0 a1 HRU.out) (st_stk k l0_0 a1 HRU.out) rfl (st_step k l0_0 a1 HRU.out) w.heap.size gX Aq cq LQ.out vN vS w _ WT.out).mono ?_; rintro e W18 ⟨vo, rfl, ⟨okk, ho⟩, hb⟩; refine ⟨_, rfl, ?_⟩; have HO := AZ.mk (Kd.R_mono ho (fun _ _ => trivial) : (Kd.int .i64).R 2 W18 w.heap.size (fun _ => True) vo _); have HB := AZ.mk hb; clear ho hb WT))
   go_ret2
   exact ⟨_, rfl, by rw [← HS.out]; exact HO.out, HB.out⟩
end Go.Proofs.Yteeplponconnjaa.P
namespace Go.Proofs.Yteeplponconnjaa.P
open Go.RowKit Go.Proofs.YteeplponconnjaaW.PrintWords Go.Proofs.YteeplponconnjaaW.PrintLast Go.Proofs.YteeplponconnjaaW.PrintMore
attribute [local go_sem] max2_int min2_int max_two min_two max_three min_three max_four min_four
set_option linter.unusedVariables false
set_option linter.unusedSimpArgs false
def laws_eqInt64S.l0 : Nat → List Int → List Int → Int → Option (Bool)
 | 0, _, _, _ => none
 | k + 1, x0, x1, x5 => if x5 < (x0.length : Int) then (if 0 ≤ x5 then (if x5 < (x1.length : Int) then (if (rd x0 x5) = (rd x1 x5) then (laws_eqInt64S.l0 k x0 x1 (wrap64 (x5 + 1))) else (some false)) else (none)) else (none)) else (some true)
def laws_eqInt64S.f (k : Nat) (l0 : List Int) (l1 : List Int) : Option (Bool) := if (l0.length : Int) = (l1.length : Int) then (laws_eqInt64S.l0 k l0 l1 0) else (some false)
set_option maxHeartbeats 8000000 in
set_option maxRecDepth 100000 in
theorem laws_eqInt64S.calls (k : Nat) (A0 : Option Addr) (c0 : Nat) (l0 : List Int) (A1 : Option Addr) (c1 : Nat) (l1 : List Int) (r : Bool) (w : World) (hr0 : Kd.C (Kd.int .i64) w A0 l0.length l0) (hc0 : l0.length ≤ c0) (hr1 : Kd.C (Kd.int .i64) w A1 l1.length l1) (hc1 : l1.length ≤ c1) (h : laws_eqInt64S.f k l0 l1 = some r) :
  Calls Try.prog 12 #[.slice A0 l0.length c0, .slice A1 l1.length c1] w fun e w' => e = .returned (.bool r) ∧ Drawn0 w w' := by
 have HR0 := AZ.mk hr0
 have HC0 := AZ.mk hc0
 clear hr0 hc0
 have HR1 := AZ.mk hr1
 have HC1 := AZ.mk hc1
 clear hr1 hc1
 have H : (if (l0.length : Int) = (l1.length : Int) then (laws_eqInt64S.l0 k l0 l1 0) else (some false)) = some r := h
 clear h
 by_cases c3 : (l0.length : Int) = (l1.length : Int)
 rotate_left
 ·rw [if_neg c3] at H
  have c3b0 : ((l0.length : Int) == (l1.length : Int)) = false := beq_eq_false_iff_ne.mpr c3
  have c3b1 : ((l0.length : Int) != (l1.length : Int)) = true := bne_iff_ne.mpr c3
  have c3b2 : (l0.length == l1.length) = false := by first | simpa using c3 | (simp at c3 ⊢; omega)
  obtain rfl := Option.some.inj H
  go_enter Try.func12, Try.ntmps12
  go_wp2
  repeat (go_quiet (fail); try go_wp2)
  go_ret
  exact ⟨by first | rfl | (simp; done) | (simp [*]; done), by repeat (first | exact Drawn0.refl _ | apply Drawn0.step)⟩
 rw [if_pos c3] at H
 have c3b0 : ((l0.length : Int) == (l1.length : Int)) = true := beq_iff_eq.mpr c3
 have c3b1 : ((l0.length : Int) != (l1.length : Int)) = false := bne_eq_false_iff_eq.mpr c3
 have c3b2 : (l0.length == l1.length) = true := by first | simpa using c3 | (simp at c3 ⊢; omega)
 clear c3
 have H' := AZ.mk H
 clear H
 go_enter Try.func12, Try.ntmps12
 go_wp2
 repeat (go_quiet (fail); try go_wp2)
 go_loopg [5] k (fun kq v5 w' => ∃ (x5_1 : Int), v5 = .int .i64 x5_1 ∧ AZ (laws_eqInt64S.l0 kq l0 l1 x5_1 = some r) ∧ AZ (kq ≤ k) ∧ Drawn0 w w')
 case atStart => exact ⟨(0), (by first | rfl | (simp; done) | (simp [*]; done)), H', ⟨Nat.le_refl _⟩, by repeat (first | exact Drawn0.refl _ | apply Drawn0.step)⟩
 case round =>
  clear H'
  try clear c1
  try clear p2
  try clear c3
  try clear c3b0
  try clear c3b1
  try clear c3b2
  obtain ⟨x5_1, rfl, HA, HK1, ⟨m1, rfl⟩⟩ := hrel
  cases gk with
  | zero => exact absurd HA.out (by simp [laws_eqInt64S.l0])
  | succ k1 =>
   have H := HA.out
   clear HA
   simp only [laws_eqInt64S.l0] at H
   by_cases c4 : x5_1 < (l0.length : Int)
   rotate_left
   ·rw [if_neg c4] at H
    have c4b0 : decide (x5_1 < (l0.length : Int)) = false := decide_eq_false c4
    clear c4
    obtain rfl := Option.some.inj H
    go_wp2
    repeat (go_quiet (fail); try go_wp2)
    go_ret
    exact ⟨by first | rfl | (simp; done) | (simp [*]; done), by repeat (first | exact Drawn0.refl _ | apply Drawn0.step)⟩
   rw [if_pos c4] at H
   have c4b0 : decide (x5_1 < (l0.length : Int)) = true := decide_eq_true c4
   clear c4
   by_cases c5 : 0 ≤ x5_1
   rotate_left
   ·rw [if_neg c5] at H
    exact absurd H (by simp)
   rw [if_pos c5] at H
   have c5b0 : decide (0 ≤ x5_1) = true := decide_eq_true c5
   clear c5
   by_cases c6 : x5_1 < (l1.length : Int)
   rotate_left
   ·rw [if_neg c6] at H
    exact absurd H (by simp)
   rw [if_pos c6] at H
   have c6b0 : decide (x5_1 < (l1.length : Int)) = true := decide_eq_true c6
   clear c6
   by_cases c7 : (rd l0 x5_1) = (rd l1 x5_1)
   rotate_left
   ·rw [if_neg c7] at H
    have c7b0 : ((rd l0 x5_1) == (rd l1 x5_1)) = false := beq_eq_false_iff_ne.mpr c7
    have c7b1 : ((rd l0 x5_1) != (rd l1 x5_1)) = true := bne_iff_ne.mpr c7
    obtain rfl := Option.some.inj H
    have p313 : 0 ≤ (x5_1 : Int) := oT (by first | (with_reducible assumption) | assumption)
    have q313 : x5_1 < (l0.length : Int) := oT (by first | (with_reducible assumption) | assumption)
    obtain ⟨ad313, e313, hx313_0⟩ := Kd.at_int HR0.out x5_1 p313 q313
    cases e313
    replace p313 := eq_true p313
    replace q313 := eq_true q313
    have p314 : 0 ≤ (x5_1 : Int) := oT (by first | (with_reducible assumption) | assumption)
    have q314 : x5_1 < (l1.length : Int) := oT (by first | (with_reducible assumption) | assumption)
    obtain ⟨ad314, e314, hx314_0⟩ := Kd.at_int HR1.out x5_1 p314 q314
    cases e314
    replace p314 := eq_true p314
    replace q314 := eq_true q314
    go_wp2
    repeat (go_quiet (fail); try go_wp2)
    go_ret
    exact ⟨by first | rfl | (simp; done) | (simp [*]; done), by repeat (first | exact Drawn0.refl _ | apply Drawn0.step)⟩
   rw [if_pos c7] at H
   have c7b0 : ((rd l0 x5_1) == (rd l1 x5_1)) = true := beq_iff_eq.mpr c7
   have c7b1 : ((rd l0 x5_1) != (rd l1 x5_1)) = false := bne_eq_false_iff_eq.mpr c7
   clear c7
   have H' := AZ.mk H
   clear H
   have p313 : 0 ≤ (x5_1 : Int) := oT (by first | (with_reducible assumption) | assumption)
   have q313 : x5_1 < (l0.length : Int) := oT (by first | (with_reducible assumption) | assumption)
   obtain ⟨ad313, e313, hx313_0⟩ := Kd.at_int HR0.out x5_1 p313 q313
   cases e313
   replace p313 := eq_true p313
   replace q313 := eq_true q313
   have p314 : 0 ≤ (x5_1 : Int) := oT (by first | (with_reducible assumption) | assumption)
   have q314 : x5_1 < (l1.length : Int) := oT (by first | (with_reducible assumption) | assumption)
   obtain ⟨ad314, e314, hx314_0⟩ := Kd.at_int HR1.out x5_1 p314 q314
   cases e314
   replace p314 := eq_true p314
   replace q314 := eq_true q314
   go_wp2
   repeat (go_quiet (fail); try go_wp2)
   go_roundg k1
   case measure => have := HK1.out; omega
   case rel => exact ⟨(wrap64 (x5_1 + 1)), (by first | rfl | (simp; done) | (simp [*]; done)), H', ⟨by have := HK1.out; omega⟩, by repeat (first | exact Drawn0.refl _ | apply Drawn0.step)⟩
end Go.Proofs.Yteeplponconnjaa.P
