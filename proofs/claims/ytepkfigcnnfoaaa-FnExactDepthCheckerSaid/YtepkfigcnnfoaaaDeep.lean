/- Rows of rows of rows that are one's own, told apart through and through: by a number for each block; what an append, a literal, a store, or any making of memory does to them. -/
import Derived.Test.YtepkfigcnnfoaaaWWords
import Derived.Test.YtepkfigcnnfoaaaWLast
import Derived.Test.YtepkfigcnnfoaaaWTab
import Derived.Test.YtepkfigcnnfoaaaWFour
import Derived.Test.YtepkfigcnnfoaaaWQPut
import Derived.Test.YtepkfigcnnfoaaaWApart
import Derived.Test.YtepkfigcnnfoaaaWArr
import Derived.Test.YtepkfigcnnfoaaaWZeros
import Derived.Test.YtepkfigcnnfoaaaWFoot
import Derived.Test.YtepkfigcnnfoaaaWKept
import Derived.Test.YtepkfigcnnfoaaaWShare
import Derived.Test.YtepkfigcnnfoaaaWN
import Derived.Test.YtepkfigcnnfoaaaWFootNe
import Derived.Test.YtepkfigcnnfoaaaWAt
import Derived.Test.YtepkfigcnnfoaaaWEqStruct
import Derived.Test.YtepkfigcnnfoaaaWRepsOne
import Derived.Test.YtepkfigcnnfoaaaWInv
import Derived.Test.YtepkfigcnnfoaaaWInvWords
import Derived.Test.YtepkfigcnnfoaaaWGuard
import Derived.Test.YtepkfigcnnfoaaaWNEv
import Derived.Test.YtepkfigcnnfoaaaWMore
namespace Go.Proofs.Ytepkfigcnnfoaaa.Deep
open Go.RowKit Go.Proofs.YtepkfigcnnfoaaaW.PrintWords Go.Proofs.YtepkfigcnnfoaaaW.PrintLast Go.Proofs.YtepkfigcnnfoaaaW.PrintMore
set_option linter.unusedVariables false
set_option linter.unusedSimpArgs false

/-- A row as an element, its own elements apart. -/
def sliceS {α : Type} (e : Nat) (d : Kd α) : Kd (List α) where
  sz := 1
  E := e :: d.E
  K := fun w xs cs => ∃ A c, cs = [.slice A xs.length c] ∧ xs.length ≤ c ∧ d.C w A xs.length xs
  M := fun w base ok xs cs => ∃ v, cs = [v] ∧ Kd.S d e w base ok v xs
  K_len := by
    rintro w x cs ⟨A, c, rfl, _⟩
    rfl
  K_one := by
    rintro w x cs ⟨A, c, rfl, _⟩ u hu
    rw [List.mem_singleton.1 hu]
    rfl
  K_below := by
    rintro w w1 x cs hb ⟨A, c, rfl, hl, hr⟩
    exact ⟨A, c, rfl, hl, Kd.C_below hr hb⟩
  K_of_M := by
    rintro w base ok x cs ⟨v, rfl, h⟩
    obtain ⟨A, c, rfl, hl, hr⟩ := Kd.S_reads h
    exact ⟨A, c, rfl, hl, hr⟩
  M_mono := by
    rintro w base ok ok' x cs hok ⟨v, rfl, h⟩
    exact ⟨v, rfl, Kd.S_mono h hok⟩
  M_bound := by
    rintro w base ok x cs ⟨v, rfl, h⟩
    exact ⟨v, rfl, Kd.S_bound h⟩
  M_move := by
    rintro w w1 base ok x cs hm ⟨v, rfl, h⟩
    exact ⟨v, rfl, Kd.S_move h hm⟩
  M_lower := by
    rintro w base base' ok x cs hb ⟨v, rfl, h⟩
    exact ⟨v, rfl, Kd.S_lower h hb⟩

/-! ### blocks by numbers -/
def tg (f : Nat → Nat) (j : Nat) : Nat → Prop := fun k => f k = j
/-- What is new from N on has the number j. -/
def upT (f : Nat → Nat) (N j : Nat) : Nat → Nat := fun k => if k < N then f k else j
/-- .. and what had the number i has j, too. -/
def mvT (f : Nat → Nat) (N i j : Nat) : Nat → Nat := fun k => if k < N then (if f k = i then j else f k) else j
theorem upT_lt {f : Nat → Nat} {N j k : Nat} (h : k < N) : upT f N j k = f k := if_pos h
theorem upT_ge {f : Nat → Nat} {N j k : Nat} (h : N ≤ k) : upT f N j k = j := if_neg (by omega)
theorem mvT_ge {f : Nat → Nat} {N i j k : Nat} (h : N ≤ k) : mvT f N i j k = j := if_neg (by omega)
theorem mvT_i {f : Nat → Nat} {N i j k : Nat} (h : k < N) (hi : f k = i) : mvT f N i j k = j := by unfold mvT; rw [if_pos h, if_pos hi]
theorem mvT_o {f : Nat → Nat} {N i j k : Nat} (h : k < N) (hi : f k ≠ i) : mvT f N i j k = f k := by unfold mvT; rw [if_pos h, if_neg hi]
section
variable {α : Type} {d : Kd α} {e B i : Nat} {f f' : Nat → Nat} {W w1 : World} {v u : Value} {xs : List α}
theorem R_carry (h : d.R e W B (tg f i) v xs) {row : Option Nat} (hg : W.grownBy w1 row) (hrow : ∀ k, row = some k → f k ≠ i) (hf : ∀ k, k < W.heap.size → f k = i → f' k = i) : d.R e w1 B (tg f' i) v xs :=
  Kd.R_mono (Kd.R_grown (Kd.R_bound h) hg (fun k hk he => hrow k he.symm hk.1)) (fun k hk => hf k hk.2.2.1 hk.1)
theorem S_carry (h : Kd.S d e W B (tg f i) v xs) {row : Option Nat} (hg : W.grownBy w1 row) (hrow : ∀ k, row = some k → f k ≠ i) (hf : ∀ k, k < W.heap.size → f k = i → f' k = i) : Kd.S d e w1 B (tg f' i) v xs :=
  Kd.S_mono (Kd.S_grown (Kd.S_bound h) hg (fun k hk he => hrow k he.symm hk.1)) (fun k hk => hf k hk.2.2.1 hk.1)
theorem R_tag_in (h : d.R e W B (tg f i) v xs) : d.R e W B (fun k => f k = i ∧ k < W.heap.size) v xs := Kd.R_mono (Kd.R_bound h) (fun k hk => ⟨hk.1, hk.2.2.1⟩)
theorem S_tag_in (h : Kd.S d e W B (tg f i) v xs) : Kd.S d e W B (fun k => f k = i ∧ k < W.heap.size) v xs := Kd.S_mono (Kd.S_bound h) (fun k hk => ⟨hk.1, hk.2.2.1⟩)
end
theorem up_other {f : Nat → Nat} {N j i : Nat} (h : ∀ k, k < N → f k = i → upT f N j k = i := fun k hk hi => (upT_lt hk).trans hi) : ∀ k, k < N → f k = i → upT f N j k = i := h
theorem mv_other {f : Nat → Nat} {N i j q : Nat} (hq : q ≠ i) : ∀ k, k < N → f k = q → mvT f N i j k = q := fun k hk h => (mvT_o hk (by rw [h]; exact hq)).trans h

/-! ### append, the new element lying anywhere -/
section
variable {P : Program} {ops : Array Oper} {o : Oper} {a : Act} {Q : Exit → Act → World → Prop} {Kc : Act → World → Prop} {α : Type}
theorem R_append_at (d : Kd α) {w0 W : World} (base : Nat) (hw : Region.wanted o (yielded ops a.tmps) = true) (s x : Operand) (t e : TypeId) (z : Value) (bytes : Nat)
    (ho : o.op = .call { callee := .builtin .append, args := #[s, x], argTypes := #[t, t] })
    (ht : P.underlying t = some (.slice e)) (hinfo : (P.info? e).map (fun i => (i.zero, i.size, i.bytes)) = some (some z, d.sz, bytes)) (hz : z.cells.size = d.sz) (hs0 : 0 < d.sz) (hb0 : 0 < bytes)
    (v : Value) (xs : List α) (p : α) (cs : List Value) (ok okp : Nat → Prop) (g : Nat) (hs : a.eval s = v) (hx : a.eval x = .slice (some ⟨g, 0, none⟩) 1 1) (hg : W.heap[g]? = some (.cells cs.toArray e (0, 0)))
    (hp : d.M W base okp p cs) (hokp : ∀ k, okp k → ok k ∧ some k ≠ v.ownBlock) (hfresh : ∀ k, W.heap.size ≤ k → ok k)
    (HO : d.R e W base ok v xs) (HB : Below base w0 W) (hbase : base ≤ W.heap.size) (hl : (xs.length + 1) * bytes ≤ 140737488355328)
    (h : ∀ v1 w1, d.R e w1 base ok v1 (xs ++ [p]) → Below base w0 w1 → W.grownBy w1 v.ownBlock → (v1.ownBlock = v.ownBlock ∨ ∃ b, v1.ownBlock = some b ∧ W.heap.size ≤ b) → Kc (a.put o.dst v1) w1) :
    if Region.wanted o (yielded ops a.tmps) = true then Oper.wp P o a W Kc Q else Kc (a.put o.dst undef) W := by
  obtain ⟨h0, inner, hown, hr⟩ := HO
  obtain ⟨i0, hi, hzz⟩ := Option.map_eq_some_iff.1 hinfo
  simp only [Prod.mk.injEq] at hzz
  obtain ⟨hz0, hz1, hz2⟩ := hzz
  have hlen : xs.length + 1 ≤ 140737488355328 := Nat.le_trans (Nat.le_mul_of_pos_right _ hb0) hl
  have hys : cs.length = d.sz := d.K_len (d.K_of_M hp)
  rw [if_pos hw]
  obtain ⟨v1, w1, hrun, hown1, hg1, _, hat⟩ := run_append_own_at (P := P) W base t o.type e i0 z d.sz bytes ht hi hz0 hz1 hz2 hz hs0 v xs.length inner hown ⟨g, 0, none⟩ 1 1 cs (by rw [hys]; simp)
    (by simpa using World.news_of_block (cs := cs.toArray) (t := e) (fr := (0, 0)) hg) (d.K_one (d.K_of_M hp)) (by simp only [maxLen]; omega) hl hbase
  unfold Oper.wp execOp
  simp only [ho, resolve, invoke, builtin, Sem.run_bind, Sem.run_pure, Result.andThen_ok, List.map_toArray, List.map_cons, List.map_nil, hs, hx, hrun]
  have hat1 : v1.ownBlock = v.ownBlock ∨ ∃ b, v1.ownBlock = some b ∧ W.heap.size ≤ b := by
    rcases hat with hat | hat
    · exact .inl hat
    · exact .inr ⟨_, hat, Nat.le_refl _⟩
  exact h v1 w1 (Kd.R_appended h0 hr hp hokp hfresh hown1 hg1 hat1) (HB.grown hg1 hbase (own_base hown)) hg1 hat1
theorem S_append_at (d : Kd α) {w0 W : World} (base : Nat) (hw : Region.wanted o (yielded ops a.tmps) = true) (s x : Operand) (t e : TypeId) (z : Value) (bytes : Nat)
    (ho : o.op = .call { callee := .builtin .append, args := #[s, x], argTypes := #[t, t] })
    (ht : P.underlying t = some (.slice e)) (hinfo : (P.info? e).map (fun i => (i.zero, i.size, i.bytes)) = some (some z, d.sz, bytes)) (hz : z.cells.size = d.sz) (hs0 : 0 < d.sz) (hb0 : 0 < bytes)
    (v : Value) (xs : List α) (p : α) (cs : List Value) (ok okp : Nat → Prop) (g : Nat) (hs : a.eval s = v) (hx : a.eval x = .slice (some ⟨g, 0, none⟩) 1 1) (hg : W.heap[g]? = some (.cells cs.toArray e (0, 0)))
    (hp : d.M W base okp p cs) (hokp : ∀ k, okp k → ok k ∧ some k ≠ v.ownBlock) (hfresh : ∀ k, W.heap.size ≤ k → ok k)
    (HO : Kd.S d e W base (fun k => ok k ∧ ¬ okp k) v xs) (HB : Below base w0 W) (hbase : base ≤ W.heap.size) (hl : (xs.length + 1) * bytes ≤ 140737488355328)
    (h : ∀ v1 w1, Kd.S d e w1 base ok v1 (xs ++ [p]) → Below base w0 w1 → W.grownBy w1 v.ownBlock → (v1.ownBlock = v.ownBlock ∨ ∃ b, v1.ownBlock = some b ∧ W.heap.size ≤ b) → Kc (a.put o.dst v1) w1) :
    if Region.wanted o (yielded ops a.tmps) = true then Oper.wp P o a W Kc Q else Kc (a.put o.dst undef) W := by
  obtain ⟨f, hf, hR⟩ := Kd.S_tag HO xs.length okp (fun _ hk h2 => h2.2 hk)
  refine R_append_at (Kd.tag f d) base hw s x t e z bytes ho ht hinfo hz hs0 hb0 v xs.zipIdx (p, xs.length) cs ok okp g hs hx hg (d.M_mono (fun k hk => ⟨hk, hf k hk⟩) hp) hokp hfresh (Kd.R_mono hR (fun _ hk => hk.1)) HB hbase (by rw [List.length_zipIdx]; exact hl) ?_
  intro v1 w1 hr
  rw [← Kd.zip_snoc] at hr
  exact h v1 w1 ⟨f, hr⟩
end

/-! ### all that 'built' has in hand -/
section
variable {α : Type} (dP : Kd α) (tA tP tC tL tI tR tK : Nat)
/-- Two variables of type tK (gC, gZ: what they hold); the rows of a checker, and the rows that become parts of them next. -/
def All (w0 w : World) (gC gZ : Nat) (cC cZ : Array Value) (vA vC vR vI vc vb vi vl : Value) (LA : List Bool) (LC : List (List α)) (LR : List (List (List Int))) (LI : List (List Int)) (lc : List α) (lb : List (List Int)) (li ll : List Int) : Prop :=
  Below w0.heap.size w0 w ∧ w.heap[gC]? = some (.cells cC tK (0, 0)) ∧ w.heap[gZ]? = some (.cells cZ tK (0, 0)) ∧ (w0.heap.size ≤ gC ∧ w0.heap.size ≤ gZ ∧ gC ≠ gZ) ∧
  ∃ f : Nat → Nat, Kd.bool.R tA w w0.heap.size (tg f 0) vA LA ∧ Kd.S (Kd.slice tP dP) tC w w0.heap.size (tg f 1) vC LC ∧ Kd.S (sliceS tI (Kd.slice tL (Kd.int .i64))) tR w w0.heap.size (tg f 2) vR LR ∧ Kd.S (Kd.slice tL (Kd.int .i64)) tI w w0.heap.size (tg f 3) vI LI ∧
    dP.R tP w w0.heap.size (tg f 4) vc lc ∧ Kd.S (Kd.slice tL (Kd.int .i64)) tI w w0.heap.size (tg f 5) vb lb ∧ (Kd.int .i64).R tL w w0.heap.size (tg f 6) vi li ∧ (Kd.int .i64).R tL w w0.heap.size (tg f 7) vl ll
/-- The types that rows' blocks have are none of the variables'. -/
structure Apart (dP : Kd α) (tA tP tC tL tI tR tK : Nat) : Prop where
  hE : dP.E = []
  a : tA ≠ tK
  p : tP ≠ tK
  c : tC ≠ tK
  l : tL ≠ tK
  i : tI ≠ tK
  r : tR ≠ tK
variable {dP tA tP tC tL tI tR tK}
variable {w0 W w1 : World} {gC gZ : Nat} {cC cZ : Array Value} {vA vC vR vI vc vb vi vl : Value} {LA : List Bool} {LC : List (List α)} {LR : List (List (List Int))} {LI : List (List Int)} {lc : List α} {lb : List (List Int)} {li ll : List Int}
theorem All.blw (h : All dP tA tP tC tL tI tR tK w0 W gC gZ cC cZ vA vC vR vI vc vb vi vl LA LC LR LI lc lb li ll) : Below w0.heap.size w0 W := h.1
theorem All.le (h : All dP tA tP tC tL tI tR tK w0 W gC gZ cC cZ vA vC vR vI vc vb vi vl LA LC LR LI lc lb li ll) : w0.heap.size ≤ W.heap.size := h.1.size
theorem All.boxC (h : All dP tA tP tC tL tI tR tK w0 W gC gZ cC cZ vA vC vR vI vc vb vi vl LA LC LR LI lc lb li ll) : W.heap[gC]? = some (.cells cC tK (0, 0)) := h.2.1
theorem All.boxZ (h : All dP tA tP tC tL tI tR tK w0 W gC gZ cC cZ vA vC vR vI vc vb vi vl LA LC LR LI lc lb li ll) : W.heap[gZ]? = some (.cells cZ tK (0, 0)) := h.2.2.1
/-- Whatever is made. -/
theorem All.below (h : All dP tA tP tC tL tI tR tK w0 W gC gZ cC cZ vA vC vR vI vc vb vi vl LA LC LR LI lc lb li ll) (hb : Below W.heap.size W w1) : All dP tA tP tC tL tI tR tK w0 w1 gC gZ cC cZ vA vC vR vI vc vb vi vl LA LC LR LI lc lb li ll := by
  obtain ⟨hB, hC, hZ, hg, f, h0, h1, h2, h3, h4, h5, h6, h7⟩ := h
  have hgr := grown_of_below hb none
  have no : ∀ i k, (none : Option Nat) = some k → f k ≠ i := fun _ _ e => by cases e
  exact ⟨below_step hB hb, blk_below hC hb, blk_below hZ hb, hg, f, R_carry h0 hgr (no 0) (fun _ _ e => e), S_carry h1 hgr (no 1) (fun _ _ e => e), S_carry h2 hgr (no 2) (fun _ _ e => e), S_carry h3 hgr (no 3) (fun _ _ e => e), R_carry h4 hgr (no 4) (fun _ _ e => e), S_carry h5 hgr (no 5) (fun _ _ e => e), R_carry h6 hgr (no 6) (fun _ _ e => e), R_carry h7 hgr (no 7) (fun _ _ e => e)⟩
theorem All.alloc (h : All dP tA tP tC tL tI tR tK w0 W gC gZ cC cZ vA vC vR vI vc vb vi vl LA LC LR LI lc lb li ll) (o : Obj) : All dP tA tP tC tL tI tR tK w0 (W.alloc o) gC gZ cC cZ vA vC vR vI vc vb vi vl LA LC LR LI lc lb li ll := h.below (below_alloc (Below.refl _ _) o)
theorem All.drew (h : All dP tA tP tC tL tI tR tK w0 W gC gZ cC cZ vA vC vR vI vc vb vi vl LA LC LR LI lc lb li ll) : All dP tA tP tC tL tI tR tK w0 W.drew gC gZ cC cZ vA vC vR vI vc vb vi vl LA LC LR LI lc lb li ll := h.below (below_drew (Below.refl _ _))
theorem All.drewN (h : All dP tA tP tC tL tI tR tK w0 W gC gZ cC cZ vA vC vR vI vc vb vi vl LA LC LR LI lc lb li ll) (n : Nat) : All dP tA tP tC tL tI tR tK w0 (W.drewN n) gC gZ cC cZ vA vC vR vI vc vb vi vl LA LC LR LI lc lb li ll := h.below (pw_below_drewN (Below.refl _ _) n)
/-- A store into the first variable. -/
theorem All.set (hT : Apart dP tA tP tC tL tI tR tK) (h : All dP tA tP tC tL tI tR tK w0 W gC gZ cC cZ vA vC vR vI vc vb vi vl LA LC LR LI lc lb li ll) (j : Nat) (u : Value) :
    All dP tA tP tC tL tI tR tK w0 (W.setCell ⟨gC, j, none⟩ u) gC gZ (cC.setIfInBounds j u) cZ vA vC vR vI vc vb vi vl LA LC LR LI lc lb li ll := by
  obtain ⟨hB, hC, hZ, hg, f, h0, h1, h2, h3, h4, h5, h6, h7⟩ := h
  have q1 : ∀ q, q ∈ tL :: (Kd.int .i64).E → q ≠ tK := fun q hq => by rw [List.mem_singleton.1 hq]; exact hT.l
  have q3 : ∀ q, q ∈ tI :: (Kd.slice tL (Kd.int .i64)).E → q ≠ tK := fun q hq => by
    rcases List.mem_cons.1 hq with rfl | hq
    · exact hT.i
    · exact q1 q hq
  have q4 : ∀ q, q ∈ tP :: dP.E → q ≠ tK := fun q hq => by rw [hT.hE] at hq; rw [List.mem_singleton.1 hq]; exact hT.p
  refine ⟨below_set hB hg.1, blk_put hC j u rfl, (Below.heap_setCell _ _ _ _ (Ne.symm hg.2.2)).trans hZ, hg, f, Kd.R_set h0 hC (fun q hq => ?_) j u, Kd.S_set h1 hC (fun q hq => ?_) j u, Kd.S_set h2 hC (fun q hq => ?_) j u, Kd.S_set h3 hC q3 j u, Kd.R_set h4 hC q4 j u, Kd.S_set h5 hC q3 j u, Kd.R_set h6 hC q1 j u, Kd.R_set h7 hC q1 j u⟩
  · rw [List.mem_singleton.1 hq]; exact hT.a
  · rcases List.mem_cons.1 hq with rfl | hq
    · exact hT.c
    · exact q4 q hq
  · rcases List.mem_cons.1 hq with rfl | hq
    · exact hT.r
    · exact q3 q hq
end
end Go.Proofs.Ytepkfigcnnfoaaa.Deep
