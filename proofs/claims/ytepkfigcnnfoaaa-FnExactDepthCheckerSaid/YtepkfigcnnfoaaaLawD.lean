/- A checker that is read; two are compared; one is looked at: the contracts over what stands in memory. -/
import Derived.Test.YtepkfigcnnfoaaaMark2
import Derived.Test.YtepkfigcnnfoaaaPx12
namespace Go.Proofs.Ytepkfigcnnfoaaa.P
open Go.RowKit Go.Proofs.YtepkfigcnnfoaaaW.PrintWords Go.Proofs.YtepkfigcnnfoaaaW.PrintLast Go.Proofs.YtepkfigcnnfoaaaW.PrintMore Go.Proofs.Ytepkfigcnnfoaaa.Deep
set_option linter.unusedVariables false
set_option linter.unusedSimpArgs false
/-- A row that reads. -/
def Rd {α : Type} (d : Kd α) (w : World) (v : Value) (xs : List α) : Prop := ∃ A c, v = .slice A xs.length c ∧ xs.length ≤ c ∧ d.C w A xs.length xs
theorem Rd.below {α : Type} {d : Kd α} {w w' : World} {v : Value} {xs : List α} (h : Rd d w v xs) (hb : Below w.heap.size w w') : Rd d w' v xs := by
  obtain ⟨A, c, e, hl, hC⟩ := h
  exact ⟨A, c, e, hl, Kd.C_below hC hb⟩
theorem Rd.ofR {α : Type} {d : Kd α} {e : TypeId} {w : World} {B : Nat} {ok : Nat → Prop} {v : Value} {xs : List α} (h : d.R e w B ok v xs) : Rd d w v xs := Kd.R_reads h
theorem Rd.ofN {α : Type} {d : Kd α} {e : TypeId} {w : World} {B : Nat} {ok : Nat → Prop} {v : Value} {xs : List α} (h : Kd.N d e w B ok v xs) : Rd d w v xs := Kd.N_reads h
theorem Rd.ofS {α : Type} {d : Kd α} {e : TypeId} {w : World} {B : Nat} {ok : Nat → Prop} {v : Value} {xs : List α} (h : Kd.S d e w B ok v xs) : Rd d w v xs := Kd.S_reads h
def Reads (w : World) (vA vC vR vI : Value) (LA : List Bool) (LC : List (List S47)) (LR : List (List (List Int))) (LI : List (List Int)) : Prop :=
  Rd Kd.bool w vA LA ∧ Rd (Kd.slice 47 k47) w vC LC ∧ Rd (Kd.slice 49 (Kd.slice 2 (Kd.int .i64))) w vR LR ∧ Rd (Kd.slice 2 (Kd.int .i64)) w vI LI
section
variable {w w' : World} {B : Nat} {vA vC vR vI vA' vC' vR' vI' : Value} {LA LA' : List Bool} {LC LC' : List (List S47)} {LR LR' : List (List (List Int))} {LI LI' : List (List Int)}
theorem Reads.below (h : Reads w vA vC vR vI LA LC LR LI) (hb : Below w.heap.size w w') : Reads w' vA vC vR vI LA LC LR LI := ⟨h.1.below hb, h.2.1.below hb, h.2.2.1.below hb, h.2.2.2.below hb⟩
theorem Reads.own (h : OwnC w B vA vC vR vI LA LC LR LI) : Reads w vA vC vR vI LA LC LR LI := by
  obtain ⟨f, h0, h1, h2, h3⟩ := h
  obtain ⟨A, c, e, hl, hC⟩ := Rd.ofS h2
  exact ⟨Rd.ofR h0, Rd.ofS h1, ⟨A, c, e, hl, hC⟩, Rd.ofS h3⟩
theorem own_below (h : OwnC w B vA vC vR vI LA LC LR LI) (hb : Below w.heap.size w w') : OwnC w' B vA vC vR vI LA LC LR LI := by
  obtain ⟨f, h0, h1, h2, h3⟩ := h
  have hgr := grown_of_below hb none
  exact ⟨f, Kd.R_grown h0 hgr (fun _ _ e => by cases e), Kd.S_grown h1 hgr (fun _ _ e => by cases e), Kd.S_grown h2 hgr (fun _ _ e => by cases e), Kd.S_grown h3 hgr (fun _ _ e => by cases e)⟩
theorem eqC_calls (k : Nat) (m st m' st' : Int) (r : Bool) (h : Reads w vA vC vR vI LA LC LR LI) (h' : Reads w vA' vC' vR' vI' LA' LC' LR' LI') (hf : laws_eqChecker.f k m st LA LC LR LI m' st' LA' LC' LR' LI' = some r) :
    Calls Try.prog 12 #[.agg #[.int .i64 m, .int .i64 st, vA, vC, vR, vI], .agg #[.int .i64 m', .int .i64 st', vA', vC', vR', vI']] w fun e w' => e = .returned (.bool r) ∧ Below w.heap.size w w' := by
  obtain ⟨⟨A0, c0, rfl, l0, g0⟩, ⟨A1, c1, rfl, l1, g1⟩, ⟨A2, c2, rfl, l2, g2⟩, ⟨A3, c3, rfl, l3, g3⟩⟩ := h
  obtain ⟨⟨B0, d0, rfl, q0, p0⟩, ⟨B1, d1, rfl, q1, p1⟩, ⟨B2, d2, rfl, q2, p2⟩, ⟨B3, d3, rfl, q3, p3⟩⟩ := h'
  exact laws_eqChecker.calls k m st A0 c0 LA A1 c1 LC A2 c2 LR A3 c3 LI m' st' B0 d0 LA' B1 d1 LC' B2 d2 LR' B3 d3 LI' r w g0 l0 g1 l1 g2 l2 g3 l3 p0 q0 p1 q1 p2 q2 p3 q3 hf
theorem heldC_calls (m st : Int) (hk : okC LA LC LR LI) (h : Reads w vA vC vR vI (markA LA) (mks szP mkP LC (numC LA)) (mks szII mkII LR (numR LA LC)) (mkII LI (numI LA LC LR))) :
    Calls Try.prog 14 #[.agg #[.int .i64 m, .int .i64 st, vA, vC, vR, vI], .int .i64 1] w fun e w' => e = .returned (.int .i64 (numE LA LC LR LI)) ∧ Below w.heap.size w w' := by
  obtain ⟨⟨A0, c0, rfl, l0, g0⟩, ⟨A1, c1, rfl, l1, g1⟩, ⟨A2, c2, rfl, l2, g2⟩, ⟨A3, c3, rfl, l3, g3⟩⟩ := h
  exact laws_heldChecker.calls 7000000 m st A0 c0 _ A1 c1 _ A2 c2 _ A3 c3 _ 1 _ w g0 l0 g1 l1 g2 l2 g3 l3 (heldC m st LA LC LR LI hk)
theorem own_far {B' : Nat} (h : OwnC w B vA vC vR vI LA LC LR LI) (hfar : ∀ k, B ≤ k → w'.heap[k]? = w.heap[k]?) (hle : B' ≤ B) : OwnC w' B' vA vC vR vI LA LC LR LI := by
  obtain ⟨f, h0, h1, h2, h3⟩ := h
  exact ⟨f, Kd.R_lower (Kd.R_mono (Kd.R_step (Kd.R_bound h0) (fun k hk _ => hfar k hk.2.1)) (fun _ hk => hk.1)) hle, Kd.S_lower (Kd.S_mono (Kd.S_step (Kd.S_bound h1) (fun k hk _ => hfar k hk.2.1)) (fun _ hk => hk.1)) hle, Kd.S_lower (Kd.S_mono (Kd.S_step (Kd.S_bound h2) (fun k hk _ => hfar k hk.2.1)) (fun _ hk => hk.1)) hle, Kd.S_lower (Kd.S_mono (Kd.S_step (Kd.S_bound h3) (fun k hk _ => hfar k hk.2.1)) (fun _ hk => hk.1)) hle⟩
theorem numE_pos : 0 ≤ numE LA LC LR LI := by unfold numE numI numR numC; omega
theorem reads_shape (h : Reads w vA vC vR vI LA LC LR LI) : (∃ A n c, vA = .slice A n c) ∧ (∃ A n c, vC = .slice A n c) ∧ (∃ A n c, vR = .slice A n c) ∧ (∃ A n c, vI = .slice A n c) := by
  obtain ⟨⟨A0, c0, rfl, l0, g0⟩, ⟨A1, c1, rfl, l1, g1⟩, ⟨A2, c2, rfl, l2, g2⟩, ⟨A3, c3, rfl, l3, g3⟩⟩ := h
  exact ⟨⟨_, _, _, rfl⟩, ⟨_, _, _, rfl⟩, ⟨_, _, _, rfl⟩, ⟨_, _, _, rfl⟩⟩
end
/-- A checker's cells. -/
def cellsI (m st : Int) (vA vC vR vI : Value) : Array Value := #[.int .i64 m, .int .i64 st, vA, vC, vR, vI]
theorem cellsI_one {w : World} {vA vC vR vI : Value} {LA : List Bool} {LC : List (List S47)} {LR : List (List (List Int))} {LI : List (List Int)} (m st : Int) (h : Reads w vA vC vR vI LA LC LR LI) : (cellsI m st vA vC vR vI).all (·.oneCell') = true := by
  obtain ⟨⟨_, _, _, rfl⟩, ⟨_, _, _, rfl⟩, ⟨_, _, _, rfl⟩, ⟨_, _, _, rfl⟩⟩ := reads_shape h
  rw [Array.all_eq_true_iff_forall_mem]
  intro x hx
  unfold cellsI at hx
  rw [List.mem_toArray] at hx
  rcases List.mem_cons.1 hx with rfl | hx
  · rfl
  rcases List.mem_cons.1 hx with rfl | hx
  · rfl
  rcases List.mem_cons.1 hx with rfl | hx
  · rfl
  rcases List.mem_cons.1 hx with rfl | hx
  · rfl
  rcases List.mem_cons.1 hx with rfl | hx
  · rfl
  rw [List.mem_singleton.1 hx]
  rfl
end Go.Proofs.Ytepkfigcnnfoaaa.P
