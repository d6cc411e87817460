/- Texts that this law leans on, several in one; written by programs of these sessions (print, wip/deep, gather.py). -/
import Derived.Test.YtepkfigcnnfoaaaOe2
set_option linter.unusedVariables false
set_option linter.unusedSimpArgs false
set_option linter.unusedSectionVars false
set_option maxHeartbeats 16000000
set_option maxRecDepth 100000
namespace Go.Proofs.Ytepkfigcnnfoaaa.P
open Go.RowKit Go.Proofs.YtepkfigcnnfoaaaW.PrintWords Go.Proofs.YtepkfigcnnfoaaaW.PrintLast Go.Proofs.YtepkfigcnnfoaaaW.PrintMore Go.Proofs.Ytepkfigcnnfoaaa.Deep
section
variable {ops : Array Oper} {rest : List Oper} {o : Oper} {a : Act} {Q : Exit → Act → World → Prop} {W : World} {K : Act → World → Prop}
theorem size39 : (Try.prog.info? 39).map (·.size) = some 6 := by kernel_rfl
theorem load39 (hgd : o.guard = none) (p : Tmp) (ho : o.op = .load 39 (.tmp p)) {g : Nat} {cs : Array Value} (hx : a.eval (.tmp p) = .pointer (some ⟨g, 0, none⟩)) (hb : W.heap[g]? = some (.cells cs 39 (0, 0))) (hs : cs.size = 6)
  (h : wpList Try.prog ops Q rest (a.put o.dst (.agg cs)) W) : wpList Try.prog ops Q (o :: rest) a W := by
 refine wpList_plain hgd fun K hK => wp_load_row 39 _ ho g hx 39 cs (0, 0) _ hb Try.underlying39 rfl (by rw [size39, hs]) ?_
 exact hK _ _ h
theorem load27_step (hw : Region.wanted o (yielded ops a.tmps) = true) {N : Tmp} (hN : o.dst = some N) (p : Tmp) (ho : o.op = .load 27 (.tmp p)) {g : Nat} {cs : Array Value} (hx : a.eval (.tmp p) = .pointer (some ⟨g, 0, none⟩)) (hb : W.heap[g]? = some (.cells cs 27 (0, 0))) (hs : cs.size = 6)
  (h : K (a.put (some N) (.agg cs)) W) : if Region.wanted o (yielded ops a.tmps) = true then Oper.wp Try.prog o a W K Q else K (a.put (some N) undef) W := by
 rw [if_pos hw]
 refine wp_load_row 27 _ ho g hx 27 cs (0, 0) _ hb Try.underlying27 rfl (by rw [size27, hs]) ?_
 rw [hN]
 exact h
theorem load39_step (hw : Region.wanted o (yielded ops a.tmps) = true) {N : Tmp} (hN : o.dst = some N) (p : Tmp) (ho : o.op = .load 39 (.tmp p)) {g : Nat} {cs : Array Value} (hx : a.eval (.tmp p) = .pointer (some ⟨g, 0, none⟩)) (hb : W.heap[g]? = some (.cells cs 39 (0, 0))) (hs : cs.size = 6)
  (h : K (a.put (some N) (.agg cs)) W) : if Region.wanted o (yielded ops a.tmps) = true then Oper.wp Try.prog o a W K Q else K (a.put (some N) undef) W := by
 rw [if_pos hw]
 refine wp_load_row 39 _ ho g hx 39 cs (0, 0) _ hb Try.underlying39 rfl (by rw [size39, hs]) ?_
 rw [hN]
 exact h
end
section
variable {w w' : World} {B B' N N' : Nat} {vA vC vR vI : Value} {LA : List Bool} {LC : List (List S47)} {LR : List (List (List Int))} {LI : List (List Int)}
theorem nuE_pos {a : Int} (h : 0 ≤ a) : 0 ≤ nuE a LA LC LR LI := by unfold nuE nuI nuR nuC; omega
theorem Yf (h : OwnB w B N vA vC vR vI LA LC LR LI) (hb : Below w.heap.size w w') : OwnB w' B N vA vC vR vI LA LC LR LI := by
 obtain ⟨f, h0, h1, h2, h3⟩ := h
 have hgr := Yj hb none
 exact ⟨f, Kd.R_grown h0 hgr (fun _ _ e => by cases e), Kd.S_grown h1 hgr (fun _ _ e => by cases e), Kd.S_grown h2 hgr (fun _ _ e => by cases e), Kd.S_grown h3 hgr (fun _ _ e => by cases e)⟩
theorem ob_far {gZ : Nat} {cs : Array Value} (h : OwnB w B N vA vC vR vI LA LC LR LI) (hZ : w.heap[gZ]? = some (.cells cs 27 (0, 0))) (hfar : ∀ k, k ≠ gZ → w'.heap[k]? = w.heap[k]?) : OwnB w' B N vA vC vR vI LA LC LR LI := by
 obtain ⟨f, h0, h1, h2, h3⟩ := h
 exact ⟨f, Kd.R_mono (Kd.R_step (Kd.R_types h0 hZ (by decide)) (fun k hk _ => hfar k hk.2)) (fun _ hk => hk.1), Kd.S_mono (Kd.S_step (Kd.S_types h1 hZ (by decide)) (fun k hk _ => hfar k hk.2)) (fun _ hk => hk.1), Kd.S_mono (Kd.S_step (Kd.S_types h2 hZ (by decide)) (fun k hk _ => hfar k hk.2)) (fun _ hk => hk.1), Kd.S_mono (Kd.S_step (Kd.S_types h3 hZ (by decide)) (fun k hk _ => hfar k hk.2)) (fun _ hk => hk.1)⟩
theorem ob_own (h : OwnB w B N vA vC vR vI LA LC LR LI) : OwnC w B vA vC vR vI LA LC LR LI := by
 obtain ⟨f, h0, h1, h2, h3⟩ := h
 exact ⟨f, Kd.R_mono h0 (fun _ hk => hk.1), Kd.S_mono h1 (fun _ hk => hk.1), Kd.S_mono h2 (fun _ hk => hk.1), Kd.S_mono h3 (fun _ hk => hk.1)⟩
theorem ob_kept {M : Nat} (h : OwnB w B N vA vC vR vI LA LC LR LI) (hk : Kept w w' (fun k => k < M)) (hM : M ≤ B) : OwnB w' B N vA vC vR vI LA LC LR LI := by
 obtain ⟨f, h0, h1, h2, h3⟩ := h
 exact ⟨f, Kd.R_mono (Kd.R_step (Kd.R_bound h0) (fun k hk' hlt => hk.2 k hlt (by have := hk'.2.1; omega))) (fun _ hk => hk.1), Kd.S_mono (Kd.S_step (Kd.S_bound h1) (fun k hk' hlt => hk.2 k hlt (by have := hk'.2.1; omega))) (fun _ hk => hk.1), Kd.S_mono (Kd.S_step (Kd.S_bound h2) (fun k hk' hlt => hk.2 k hlt (by have := hk'.2.1; omega))) (fun _ hk => hk.1), Kd.S_mono (Kd.S_step (Kd.S_bound h3) (fun k hk' hlt => hk.2 k hlt (by have := hk'.2.1; omega))) (fun _ hk => hk.1)⟩
theorem ob_lower (h : OwnB w B N vA vC vR vI LA LC LR LI) (hB : B' ≤ B) : OwnB w B' N vA vC vR vI LA LC LR LI := by
 obtain ⟨f, h0, h1, h2, h3⟩ := h
 exact ⟨f, Kd.R_lower h0 hB, Kd.S_lower h1 hB, Kd.S_lower h2 hB, Kd.S_lower h3 hB⟩
end
namespace Eith
def eith.T8 : Bool × List (List Nat × List Nat) := (true, [([], []), ([0], [0]), ([], []), ([2, 1], [2]), ([1, 3, 3], [1, 3]), ([4], [4]), ([5], [5]), ([5], [5]), ([], []), ([8, 6, 4, 0, 1, 2, 3, 4, 5, 6, 8], [6, 8]), ([7, 9, 0, 1, 2, 3, 4, 5, 6, 7, 8, 9], [7])])
def eith.B8 : List Nat := [0, 1, 0, 7, 15, 31, 63, 63, 0, 383, 1023]
theorem eith.tab8 : rtab .any (opsOf Try.f9 8) = eith.T8 := by kernel_rfl
theorem eith.bits8 : waitsOk eith.T8.2 eith.B8 = true := by kernel_rfl
def eith.T14 : Bool × List (List Nat × List Nat) := (true, [([], []), ([], []), ([1], [1]), ([0, 2, 2], [0, 2]), ([3], [3])])
def eith.B14 : List Nat := [0, 0, 2, 7, 15]
theorem eith.tab14 : rtab .any (opsOf Try.f9 14) = eith.T14 := by kernel_rfl
theorem eith.bits14 : waitsOk eith.T14.2 eith.B14 = true := by kernel_rfl
def eith.T16 : Bool × List (List Nat × List Nat) := (true, [([], []), ([], []), ([1], [1]), ([0, 2, 2], [0, 2]), ([3], [3])])
def eith.B16 : List Nat := [0, 0, 2, 7, 15]
theorem eith.tab16 : rtab .any (opsOf Try.f9 16) = eith.T16 := by kernel_rfl
theorem eith.bits16 : waitsOk eith.T16.2 eith.B16 = true := by kernel_rfl
def eith.T31 : Bool × List (List Nat × List Nat) := (true, [([], []), ([0], [0]), ([], []), ([2, 1], [2]), ([1, 3, 3], [1, 3]), ([4], [4]), ([5], [5]), ([5], [5]), ([], []), ([8, 6, 4, 0, 1, 2, 3, 4, 5, 6, 8], [6, 8]), ([7, 9, 0, 1, 2, 3, 4, 5, 6, 7, 8, 9], [7])])
def eith.B31 : List Nat := [0, 1, 0, 7, 15, 31, 63, 63, 0, 383, 1023]
theorem eith.tab31 : rtab .any (opsOf Try.f9 31) = eith.T31 := by kernel_rfl
theorem eith.bits31 : waitsOk eith.T31.2 eith.B31 = true := by kernel_rfl
theorem walk_out1 (pa pb : Int) (l2 : List Bool) (l4 : List (List (List Int))) (l5 : List (List Int)) (qa qb : Int) (p2 : List Bool) (p4 : List (List (List Int))) (p5 : List (List Int)) (cA cD : Array Value) (hsA : cA.size = 6) (hsD : cD.size = 6) (w : World) (z : Int) (hz0 : z < 0)
  (hz : ∀ W, Below w.heap.size w W → Calls Try.prog 21 #[.agg cA, .int .i64 1048576] W fun e W' => e = .returned (.int .i64 z) ∧ Below W.heap.size W W') :
  Calls Try.prog 9 #[.agg cA, .agg cD] w fun e w' => e = .returned (.bool true) ∧ Below w.heap.size w w' := by
 have HB := AZ.mk (Below.refl w.heap.size w)
 have HZ := AZ.mk hz
 have dz : decide (z < 0) = true := dT hz0
 clear hz hz0
 go_enter Try.func9, Try.ntmps9
 go_wp2_with (first | ((with_reducible refine Zc (N := 2) rfl ?_); refine Zh rfl (N := 2) rfl (cs := cA) (t := 39) (by go_simp; try rfl) ?_; intro b0 hg Wb0 hbx hb; have n9_ := AZ.mk hbx; have GHBb0 := AZ.mk (show _ ≤ b0 by rw [hg]; exact pZ HB.out); clear hbx hg; replace HB := AZ.mk (pT HB.out hb); clear hb; have B0 := n9_; clear n9_; (try simp only [Act.put, sA, sB, sC])) | ((with_reducible refine Zc (N := 3) rfl ?_); refine Zh rfl (N := 3) rfl (cs := cD) (t := 39) (by go_simp; try rfl) ?_; intro be hg Wbe hbx hb; have n9_ := AZ.mk hbx; have GHBbe := AZ.mk (show _ ≤ be by rw [hg]; exact pZ HB.out); have NEB0be := AZ.mk (show b0 ≠ be by rw [hg]; exact nL (Zv B0.out)); clear hbx hg; replace HB := AZ.mk (pT HB.out hb); replace B0 := AZ.mk (bb_ B0.out hb); clear hb; have BE := n9_; clear n9_; (try simp only [Act.put, sA, sB, sC])) | ((with_reducible refine Zc (N := 17) rfl ?_); refine load39 rfl 2 rfl (g := b0) rfl B0.out hsA ?_; (try simp only [Act.put, sA, sB, sC])) | ((with_reducible refine Zc (N := 19) rfl ?_); refine Zi (some 19) rfl rfl Try.func21 (by kernel_rfl) rfl #[.agg cA, .int .i64 1048576] rfl (by (try simp only [mA, mB, mC]); first | done | rfl) ?_; refine (HZ.out _ HB.out).mono ?_; rintro e W0 ⟨rfl, hb⟩; refine ⟨_, rfl, ?_⟩; replace HB := AZ.mk (pT HB.out hb); replace B0 := AZ.mk (bb_ B0.out hb); replace BE := AZ.mk (bb_ BE.out hb); clear hb; (try simp only [Act.put, sA, sB, sC])))
 go_ret
 exact ⟨rfl, HB.out⟩
theorem walk_out2 (pa pb : Int) (l2 : List Bool) (l4 : List (List (List Int))) (l5 : List (List Int)) (qa qb : Int) (p2 : List Bool) (p4 : List (List (List Int))) (p5 : List (List Int)) (cA cD : Array Value) (hsA : cA.size = 6) (hsD : cD.size = 6) (w : World) (z z2 : Int) (hz0 : ¬ z < 0) (hz20 : z2 < 0)
  (hz : ∀ W, Below w.heap.size w W → Calls Try.prog 21 #[.agg cA, .int .i64 1048576] W fun e W' => e = .returned (.int .i64 z) ∧ Below W.heap.size W W')
  (hz2 : ∀ W, Below w.heap.size w W → Calls Try.prog 21 #[.agg cD, .int .i64 z] W fun e W' => e = .returned (.int .i64 z2) ∧ Below W.heap.size W W') :
  Calls Try.prog 9 #[.agg cA, .agg cD] w fun e w' => e = .returned (.bool true) ∧ Below w.heap.size w w' := by
 have HB := AZ.mk (Below.refl w.heap.size w)
 have HZ := AZ.mk hz
 have HZ2 := AZ.mk hz2
 have dz : decide (z < 0) = false := dF hz0
 have dz2 : decide (z2 < 0) = true := dT hz20
 clear hz hz0 hz2 hz20
 go_enter Try.func9, Try.ntmps9
 go_wp2_with (first | ((with_reducible refine Zc (N := 2) rfl ?_); refine Zh rfl (N := 2) rfl (cs := cA) (t := 39) (by go_simp; try rfl) ?_; intro b0 hg Wb0 hbx hb; have n9_ := AZ.mk hbx; have GHBb0 := AZ.mk (show _ ≤ b0 by rw [hg]; exact pZ HB.out); clear hbx hg; replace HB := AZ.mk (pT HB.out hb); clear hb; have B0 := n9_; clear n9_; (try simp only [Act.put, sA, sB, sC])) | ((with_reducible refine Zc (N := 3) rfl ?_); refine Zh rfl (N := 3) rfl (cs := cD) (t := 39) (by go_simp; try rfl) ?_; intro be hg Wbe hbx hb; have n9_ := AZ.mk hbx; have GHBbe := AZ.mk (show _ ≤ be by rw [hg]; exact pZ HB.out); have NEB0be := AZ.mk (show b0 ≠ be by rw [hg]; exact nL (Zv B0.out)); clear hbx hg; replace HB := AZ.mk (pT HB.out hb); replace B0 := AZ.mk (bb_ B0.out hb); clear hb; have BE := n9_; clear n9_; (try simp only [Act.put, sA, sB, sC])) | ((with_reducible refine Zc (N := 17) rfl ?_); refine load39 rfl 2 rfl (g := b0) rfl B0.out hsA ?_; (try simp only [Act.put, sA, sB, sC])) | ((with_reducible refine Zc (N := 19) rfl ?_); refine Zi (some 19) rfl rfl Try.func21 (by kernel_rfl) rfl #[.agg cA, .int .i64 1048576] rfl (by (try simp only [mA, mB, mC]); first | done | rfl) ?_; refine (HZ.out _ HB.out).mono ?_; rintro e W0 ⟨rfl, hb⟩; refine ⟨_, rfl, ?_⟩; replace HB := AZ.mk (pT HB.out hb); replace B0 := AZ.mk (bb_ B0.out hb); replace BE := AZ.mk (bb_ BE.out hb); clear hb; (try simp only [Act.put, sA, sB, sC])) | ((with_reducible refine Zc (N := 22) rfl ?_); refine load39 rfl 3 rfl (g := be) rfl BE.out hsD ?_; (try simp only [Act.put, sA, sB, sC])) | ((with_reducible refine Zc (N := 24) rfl ?_); refine Zi (some 24) rfl rfl Try.func21 (by kernel_rfl) rfl #[.agg cD, .int .i64 z] rfl (by (try simp only [mA, mB, mC]); first | done | rfl) ?_; refine (HZ2.out _ HB.out).mono ?_; rintro e W0 ⟨rfl, hb⟩; refine ⟨_, rfl, ?_⟩; replace HB := AZ.mk (pT HB.out hb); replace B0 := AZ.mk (bb_ B0.out hb); replace BE := AZ.mk (bb_ BE.out hb); clear hb; (try simp only [Act.put, sA, sB, sC])))
 go_ret
 exact ⟨rfl, HB.out⟩
theorem walkin (pa pb : Int) (l2 : List Bool) (l4 : List (List (List Int))) (l5 : List (List Int)) (qa qb : Int) (p2 : List Bool) (p4 : List (List (List Int))) (p5 : List (List Int)) (cA cD : Array Value) (hsA : cA.size = 6) (hsD : cD.size = 6) (w : World) (z z2 : Int) (hz0 : ¬ z < 0) (hz20 : ¬ z2 < 0) (l3' p3' : List (List S47)) (gm gs gk : Int) (gA' : List Bool) (gC' : List (List S47)) (gR' : List (List (List Int))) (gI' : List (List Int)) (kq : Nat)
  (hz : ∀ W, Below w.heap.size w W → Calls Try.prog 21 #[.agg cA, .int .i64 1048576] W fun e W' => e = .returned (.int .i64 z) ∧ Below W.heap.size W W')
  (hz2 : ∀ W, Below w.heap.size w W → Calls Try.prog 21 #[.agg cD, .int .i64 z] W fun e W' => e = .returned (.int .i64 z2) ∧ Below W.heap.size W W')
  (ht : ∀ W, Below w.heap.size w W → Calls Try.prog 23 #[.agg cA] W fun e W' => ∃ vA vC vR vI : Value, e = .returned (.agg #[.int .i64 pa, .int .i64 pb, vA, vC, vR, vI]) ∧ OwnC W' W.heap.size vA vC vR vI l2 l3' l4 l5 ∧ Below W.heap.size W W')
  (ht2 : ∀ W, Below w.heap.size w W → Calls Try.prog 23 #[.agg cD] W fun e W' => ∃ vA vC vR vI : Value, e = .returned (.agg #[.int .i64 qa, .int .i64 qb, vA, vC, vR, vI]) ∧ OwnC W' W.heap.size vA vC vR vI p2 p3' p4 p5 ∧ Below W.heap.size W W')
  (hs : ∀ (W : World) (vA vC vR vI zA zC zR zI : Value), Reads W vA vC vR vI l2 l3' l4 l5 → Reads W zA zC zR zI p2 p3' p4 p5 → Calls Try.prog 27 #[.agg (cellsI pa pb vA vC vR vI), .agg (cellsI qa qb zA zC zR zI)] W fun e W' => ∃ uA uC uR uI : Value, e = .returned (.tuple #[.agg #[.int .i64 gm, .int .i64 gs, uA, uC, uR, uI], .int .i64 gk]) ∧ OwnC W' W.heap.size uA uC uR uI gA' gC' gR' gI' ∧ Below W.heap.size W W')
  (hi : ∀ (W : World) (vA vC vR vI zA zC zR zI : Value), Reads W vA vC vR vI l2 l3' l4 l5 → Reads W zA zC zR zI p2 p3' p4 p5 → Calls Try.prog 28 #[.agg (cellsI pa pb vA vC vR vI), .agg (cellsI qa qb zA zC zR zI)] W fun e W' => ∃ uA uC uR uI : Value, e = .returned (.tuple #[.agg #[.int .i64 gm, .int .i64 gs, uA, uC, uR, uI], .int .i64 gk]) ∧ OwnC W' W.heap.size uA uC uR uI gA' gC' gR' gI' ∧ Below W.heap.size W W')
  (okx : okC l2 l3' l4 l5) (oky : okC p2 p3' p4 p5) (okg : okC gA' gC' gR' gI') (hnx : nuE 1 l2 l3' l4 l5 ≤ 2305843009213693952) (eqx : laws_eqChecker.f kq pa pb l2 l3' l4 l5 pa pb l2 l3' l4 l5 = some true) (eqy : laws_eqChecker.f kq qa qb p2 p3' p4 p5 qa qb p2 p3' p4 p5 = some true) (eqg : laws_eqChecker.f kq gm gs gA' gC' gR' gI' gm gs gA' gC' gR' gI' = some true) :
  Calls Try.prog 9 #[.agg cA, .agg cD] w fun e w' => e = .returned (.bool true) ∧ Below w.heap.size w w' := by
 have hu27 := Try.underlying27
 have HB := AZ.mk (Below.refl w.heap.size w)
 have HZ := AZ.mk hz
 have HZ2 := AZ.mk hz2
 have HT := AZ.mk ht
 have HT2 := AZ.mk ht2
 have HS := AZ.mk hs
 have HI := AZ.mk hi
 have OKX := AZ.mk okx
 have OKY := AZ.mk oky
 have OKG := AZ.mk okg
 have EQX := AZ.mk eqx
 have EQY := AZ.mk eqy
 have EQG := AZ.mk eqg
 obtain ⟨qx, hqx⟩ : ∃ q, q = nuE 1 l2 l3' l4 l5 := ⟨_, rfl⟩
 have hx0 : 0 ≤ qx := by rw [hqx]; exact nuE_pos (by decide)
 have HQB := AZ.mk (show 0 ≤ qx ∧ qx ≤ 2305843009213693952 from ⟨hx0, by rw [hqx]; exact hnx⟩)
 obtain ⟨qy, hqy⟩ : ∃ q, q = nuE qx p2 p3' p4 p5 := ⟨_, rfl⟩
 obtain ⟨qg, hqg⟩ : ∃ q, q = nuE 1 gA' gC' gR' gI' := ⟨_, rfl⟩
 have HQX := AZ.mk hqx
 have HQY := AZ.mk hqy
 have HQG := AZ.mk hqg
 have HQG2 := AZ.mk (show qg = numE gA' gC' gR' gI' from hqg)
 have dx : decide (qy < 0) = false := dF (by rw [hqy]; exact Int.not_lt.2 (nuE_pos hx0))
 have dg : decide (qg < 0) = false := dF (by rw [hqg]; exact Int.not_lt.2 (nuE_pos (by decide)))
 have dz : decide (z < 0) = false := dF hz0
 have dz2 : decide (z2 < 0) = false := dF hz20
 clear hz0 hz20 hnx hqx hqy hqg hx0 hz hz2 ht ht2 hs hi okx oky okg eqx eqy eqg
 go_enter Try.func9, Try.ntmps9
 go_wp2_with (first | ((with_reducible refine Zc (N := 2) rfl ?_); refine Zh rfl (N := 2) rfl (cs := cA) (t := 39) (by go_simp; try rfl) ?_; intro b0 hg Wb0 hbx hb; have n9_ := AZ.mk hbx; have GHBb0 := AZ.mk (show _ ≤ b0 by rw [hg]; exact pZ HB.out); clear hbx hg; replace HB := AZ.mk (pT HB.out hb); clear hb; have B0 := n9_; clear n9_; (try simp only [Act.put, sA, sB, sC])) | ((with_reducible refine Zc (N := 3) rfl ?_); refine Zh rfl (N := 3) rfl (cs := cD) (t := 39) (by go_simp; try rfl) ?_; intro be hg Wbe hbx hb; have n9_ := AZ.mk hbx; have GHBbe := AZ.mk (show _ ≤ be by rw [hg]; exact pZ HB.out); have NEB0be := AZ.mk (show b0 ≠ be by rw [hg]; exact nL (Zv B0.out)); clear hbx hg; replace HB := AZ.mk (pT HB.out hb); replace B0 := AZ.mk (bb_ B0.out hb); clear hb; have BE := n9_; clear n9_; (try simp only [Act.put, sA, sB, sC])) | ((with_reducible refine Zc (N := 17) rfl ?_); refine load39 rfl 2 rfl (g := b0) rfl B0.out hsA ?_; (try simp only [Act.put, sA, sB, sC])) | ((with_reducible refine Zc (N := 19) rfl ?_); refine Zi (some 19) rfl rfl Try.func21 (by kernel_rfl) rfl #[.agg cA, .int .i64 1048576] rfl (by (try simp only [mA, mB, mC]); first | done | rfl) ?_; refine (HZ.out _ HB.out).mono ?_; rintro e W0 ⟨rfl, hb⟩; refine ⟨_, rfl, ?_⟩; replace HB := AZ.mk (pT HB.out hb); replace B0 := AZ.mk (bb_ B0.out hb); replace BE := AZ.mk (bb_ BE.out hb); clear hb; (try simp only [Act.put, sA, sB, sC])) | ((with_reducible refine Zc (N := 22) rfl ?_); refine load39 rfl 3 rfl (g := be) rfl BE.out hsD ?_; (try simp only [Act.put, sA, sB, sC])) | ((with_reducible refine Zc (N := 24) rfl ?_); refine Zi (some 24) rfl rfl Try.func21 (by kernel_rfl) rfl #[.agg cD, .int .i64 z] rfl (by (try simp only [mA, mB, mC]); first | done | rfl) ?_; refine (HZ2.out _ HB.out).mono ?_; rintro e W0 ⟨rfl, hb⟩; refine ⟨_, rfl, ?_⟩; replace HB := AZ.mk (pT HB.out hb); replace B0 := AZ.mk (bb_ B0.out hb); replace BE := AZ.mk (bb_ BE.out hb); clear hb; (try simp only [Act.put, sA, sB, sC])))
 refine start_ (n := 11) (S := fun w' => True) (ds := []) (bz 11 0) (by kernel_rfl) rfl rfl trivial (fun hHeld => ?_)
 refine Yh eith.tab8 eith.bits8 (fun HT_ HW_ => ?_)
 have n0_ := AZ.mk (pD HB.out)
 have n1_ := AZ.mk (bd_ B0.out)
 have n2_ := AZ.mk (bd_ BE.out)
 clear HB B0 BE
 have HB := n0_
 have B0 := n1_
 have BE := n2_
 clear n0_ n1_ n2_
 generalize World.drew _ = wD at HB B0 BE hHeld ⊢
 refine inv_at [0, 1, 2, 3, 4, 5, 6, 7, 8, 9, 10] (fun a0_ b a w' => ∃ (tA : Value) (tC : Value) (tR : Value) (tI : Value) (nt : Nat) (uA : Value) (uC : Value) (uR : Value) (uI : Value) (nu : Nat) (wA : Value) (wC : Value) (wR : Value) (wI : Value) (nw : Nat) (b1 : Nat) (m1_ : Value) (m3_ : Value) (m4_ : Value) (m5_ : Value) (m6_ : Value) (m8_ : Value), a = Zz a0_ b [(0, 28, .agg cA), (1, 29, m1_), (2, 30, .agg cD), (3, 31, m3_), (4, 32, m4_), (5, 27, m5_), (6, 33, m6_), (7, 34, .int .i64 gk), (8, 6, m8_), (10, 7, .int .i64 gk)] ∧ (Below w.heap.size w w') ∧ (w'.heap[b0]? = some (.cells cA 39 (0, 0))) ∧ (w'.heap[be]? = some (.cells cD 39 (0, 0))) ∧ (b 1 = true → b 9 = false → OwnC w' nt tA tC tR tI l2 l3' l4 l5) ∧ (b 3 = true → b 9 = false → OwnC w' nu uA uC uR uI p2 p3' p4 p5) ∧ (b 4 = true → b 9 = false → OwnC w' nw wA wC wR wI gA' gC' gR' gI' ∧ w.heap.size ≤ nw) ∧ (b 8 = true → w.heap.size ≤ b1 ∧ b0 ≠ b1 ∧ be ≠ b1) ∧ (b 8 = true → b 9 = false → w'.heap[b1]? = some (.cells cZ 27 (0, 0))) ∧ (b 9 = true → w'.heap[b1]? = some (.cells (cellsI gm gs wA wC wR wI) 27 (0, 0))) ∧ (b 9 = true → OwnC w' w.heap.size wA wC wR wI gA' gC' gR' gI') ∧ (b 1 = true → (m1_ : Value) = .agg (cellsI pa pb tA tC tR tI)) ∧ (b 3 = true → (m3_ : Value) = .agg (cellsI qa qb uA uC uR uI)) ∧ (b 4 = true → (m4_ : Value) = .tuple #[.agg #[.int .i64 gm, .int .i64 gs, wA, wC, wR, wI], .int .i64 gk]) ∧ (b 5 = true → (m5_ : Value) = .tuple #[.agg #[.int .i64 gm, .int .i64 gs, wA, wC, wR, wI], .int .i64 gk]) ∧ (b 6 = true → (m6_ : Value) = .agg #[.int .i64 gm, .int .i64 gs, wA, wC, wR, wI]) ∧ (b 8 = true → (m8_ : Value) = .pointer (some ⟨b1, 0, none⟩))) HT_.out HW_.out (by kernel_rfl) (by kernel_rfl) ?_ ?_ ?_
 ·exact ⟨.bool false, .bool false, .bool false, .bool false, 0, .bool false, .bool false, .bool false, .bool false, 0, .bool false, .bool false, .bool false, .bool false, 0, 0, .bool false, .bool false, .bool false, .bool false, .bool false, .bool false, by simp only [Zz, Bool.false_eq_true, if_false], HB.out, B0.out, BE.out, fun h_ => absurd h_ (by decide), fun h_ => absurd h_ (by decide), fun h_ => absurd h_ (by decide), fun h_ => absurd h_ (by decide), fun h_ => absurd h_ (by decide), fun h_ => absurd h_ (by decide), fun h_ => absurd h_ (by decide), fun h_ => absurd h_ (by decide), fun h_ => absurd h_ (by decide), fun h_ => absurd h_ (by decide), fun h_ => absurd h_ (by decide), fun h_ => absurd h_ (by decide), fun h_ => absurd h_ (by decide)⟩
 ·skip
  clear B0 BE HB
  refine Za ?_ ?_
  ·rintro b a w' ⟨tA, tC, tR, tI, nt, uA, uC, uR, uI, nu, wA, wC, wR, wI, nw, b1, m1_, m3_, m4_, m5_, m6_, m8_, ha, Q_HB, Q_B0, Q_BE, Q_OT, Q_OU, Q_OW, Q_GA, Q_AZ0, Q_B1, Q_OV, Q_X1_, Q_X3_, Q_X4_, Q_X5_, Q_X6_, Q_X8_⟩ hb_ hon hoff
   refine ⟨_, rfl, fun K hK => ?_⟩
   have e2 : a.tmps[2]? = some (.pointer (some ⟨b0, 0, none⟩)) := xH_ ha rfl rfl
   replace ha := AZ.mk ha
   have HB := AZ.mk Q_HB
   have B0 := AZ.mk Q_B0
   have BE := AZ.mk Q_BE
   refine load39_step (by rfl) (N := 28) rfl 2 rfl (g := b0) (Zt e2) B0.out hsA ?_
   refine hK.out _ _ ⟨tA, tC, tR, tI, nt, uA, uC, uR, uI, nu, wA, wC, wR, wI, nw, b1, m1_, m3_, m4_, m5_, m6_, m8_, (xI_ ha.out 0 hb_ rfl rfl rfl), HB.out, B0.out, BE.out, xB_ (hoff 1 rfl), xB_ (hoff 3 rfl), xB_ (hoff 4 rfl), Q_GA, fun h0_ h1_ => (Q_AZ0 h0_ h1_), xA_ (hoff 9 rfl), xA_ (hoff 9 rfl), xA_ (hoff 1 rfl), xA_ (hoff 3 rfl), xA_ (hoff 4 rfl), xA_ (hoff 5 rfl), xA_ (hoff 6 rfl), Q_X8_⟩
  refine Za ?_ ?_
  ·rintro b a w' ⟨tA, tC, tR, tI, nt, uA, uC, uR, uI, nu, wA, wC, wR, wI, nw, b1, m1_, m3_, m4_, m5_, m6_, m8_, ha, Q_HB, Q_B0, Q_BE, Q_OT, Q_OU, Q_OW, Q_GA, Q_AZ0, Q_B1, Q_OV, Q_X1_, Q_X3_, Q_X4_, Q_X5_, Q_X6_, Q_X8_⟩ hb_ hon hoff
   refine ⟨_, rfl, fun K hK => ?_⟩
   have e28 := xG_ ha 0 rfl (hon 0 rfl) rfl rfl
   replace ha := AZ.mk ha
   have HB := AZ.mk Q_HB
   have B0 := AZ.mk Q_B0
   have BE := AZ.mk Q_BE
   refine goes_ Try.func23 (by kernel_rfl) rfl #[.agg cA] (by rfl) rfl rfl (by simp only [mA, mB, mC, Zt e28]) ?_
   refine (HT.out _ HB.out).mono ?_
   rintro e w_ ⟨v1_, v2_, v3_, v4_, rfl, hO, hb⟩
   refine ⟨_, rfl, ?_⟩
   refine hK.out _ _ ⟨v1_, v2_, v3_, v4_, (World.heap w').size, uA, uC, uR, uI, nu, wA, wC, wR, wI, nw, b1, (.agg (cellsI pa pb v1_ v2_ v3_ v4_)), m3_, m4_, m5_, m6_, m8_, (xI_ ha.out 1 hb_ rfl rfl rfl), pT HB.out hb, bb_ B0.out hb, bb_ BE.out hb, fun _ _ => hO, xB_ (hoff 3 rfl), xB_ (hoff 4 rfl), Q_GA, fun h0_ h1_ => bb_ (Q_AZ0 h0_ h1_) hb, xA_ (hoff 9 rfl), xA_ (hoff 9 rfl), fun _ => rfl, xA_ (hoff 3 rfl), xA_ (hoff 4 rfl), xA_ (hoff 5 rfl), xA_ (hoff 6 rfl), Q_X8_⟩
  refine Za ?_ ?_
  ·rintro b a w' ⟨tA, tC, tR, tI, nt, uA, uC, uR, uI, nu, wA, wC, wR, wI, nw, b1, m1_, m3_, m4_, m5_, m6_, m8_, ha, Q_HB, Q_B0, Q_BE, Q_OT, Q_OU, Q_OW, Q_GA, Q_AZ0, Q_B1, Q_OV, Q_X1_, Q_X3_, Q_X4_, Q_X5_, Q_X6_, Q_X8_⟩ hb_ hon hoff
   refine ⟨_, rfl, fun K hK => ?_⟩
   have e3 : a.tmps[3]? = some (.pointer (some ⟨be, 0, none⟩)) := xH_ ha rfl rfl
   replace ha := AZ.mk ha
   have HB := AZ.mk Q_HB
   have B0 := AZ.mk Q_B0
   have BE := AZ.mk Q_BE
   refine load39_step (by rfl) (N := 30) rfl 3 rfl (g := be) (Zt e3) BE.out hsD ?_
   refine hK.out _ _ ⟨tA, tC, tR, tI, nt, uA, uC, uR, uI, nu, wA, wC, wR, wI, nw, b1, m1_, m3_, m4_, m5_, m6_, m8_, (xI_ ha.out 2 hb_ rfl rfl rfl), HB.out, B0.out, BE.out, fun h0_ h1_ => (Q_OT h0_ h1_), xB_ (hoff 3 rfl), xB_ (hoff 4 rfl), Q_GA, fun h0_ h1_ => (Q_AZ0 h0_ h1_), xA_ (hoff 9 rfl), xA_ (hoff 9 rfl), Q_X1_, xA_ (hoff 3 rfl), xA_ (hoff 4 rfl), xA_ (hoff 5 rfl), xA_ (hoff 6 rfl), Q_X8_⟩
  refine Za ?_ ?_
  ·rintro b a w' ⟨tA, tC, tR, tI, nt, uA, uC, uR, uI, nu, wA, wC, wR, wI, nw, b1, m1_, m3_, m4_, m5_, m6_, m8_, ha, Q_HB, Q_B0, Q_BE, Q_OT, Q_OU, Q_OW, Q_GA, Q_AZ0, Q_B1, Q_OV, Q_X1_, Q_X3_, Q_X4_, Q_X5_, Q_X6_, Q_X8_⟩ hb_ hon hoff
   refine ⟨_, rfl, fun K hK => ?_⟩
   have e30 := xG_ ha 2 rfl (hon 2 rfl) rfl rfl
   replace ha := AZ.mk ha
   have HB := AZ.mk Q_HB
   have B0 := AZ.mk Q_B0
   have BE := AZ.mk Q_BE
   have OT := AZ.mk (Q_OT (hon 1 rfl) (hoff 9 rfl))
   refine goes_ Try.func23 (by kernel_rfl) rfl #[.agg cD] (by rfl) rfl rfl (by simp only [mA, mB, mC, Zt e30]) ?_
   refine (HT2.out _ HB.out).mono ?_
   rintro e w_ ⟨v1_, v2_, v3_, v4_, rfl, hO, hb⟩
   refine ⟨_, rfl, ?_⟩
   refine hK.out _ _ ⟨tA, tC, tR, tI, nt, v1_, v2_, v3_, v4_, (World.heap w').size, wA, wC, wR, wI, nw, b1, m1_, (.agg (cellsI qa qb v1_ v2_ v3_ v4_)), m4_, m5_, m6_, m8_, (xI_ ha.out 3 hb_ rfl rfl rfl), pT HB.out hb, bb_ B0.out hb, bb_ BE.out hb, fun _ _ => Ye OT.out hb, fun _ _ => hO, xB_ (hoff 4 rfl), Q_GA, fun h0_ h1_ => bb_ (Q_AZ0 h0_ h1_) hb, xA_ (hoff 9 rfl), xA_ (hoff 9 rfl), Q_X1_, fun _ => rfl, xA_ (hoff 4 rfl), xA_ (hoff 5 rfl), xA_ (hoff 6 rfl), Q_X8_⟩
  refine Za ?_ ?_
  ·rintro b a w' ⟨tA, tC, tR, tI, nt, uA, uC, uR, uI, nu, wA, wC, wR, wI, nw, b1, m1_, m3_, m4_, m5_, m6_, m8_, ha, Q_HB, Q_B0, Q_BE, Q_OT, Q_OU, Q_OW, Q_GA, Q_AZ0, Q_B1, Q_OV, Q_X1_, Q_X3_, Q_X4_, Q_X5_, Q_X6_, Q_X8_⟩ hb_ hon hoff
   refine ⟨_, rfl, fun K hK => ?_⟩
   have e29 := xG_ ha 1 rfl (hon 1 rfl) rfl rfl
   rw [Q_X1_ (hon 1 rfl)] at e29
   have e31 := xG_ ha 3 rfl (hon 3 rfl) rfl rfl
   rw [Q_X3_ (hon 3 rfl)] at e31
   replace ha := AZ.mk ha
   have HB := AZ.mk Q_HB
   have B0 := AZ.mk Q_B0
   have BE := AZ.mk Q_BE
   have OT := AZ.mk (Q_OT (hon 1 rfl) (hoff 9 rfl))
   have OU := AZ.mk (Q_OU (hon 3 rfl) (hoff 9 rfl))
   refine goes_ Try.func27 (by kernel_rfl) rfl #[.agg (cellsI pa pb tA tC tR tI), .agg (cellsI qa qb uA uC uR uI)] (by rfl) rfl rfl (by simp only [mA, mB, mC, Zt e29, Zt e31]) ?_
   refine (HS.out _ _ _ _ _ _ _ _ _ (Reads.own OT.out) (Reads.own OU.out)).mono ?_
   rintro e w_ ⟨v1_, v2_, v3_, v4_, rfl, hO, hb⟩
   refine ⟨_, rfl, ?_⟩
   refine hK.out _ _ ⟨tA, tC, tR, tI, nt, uA, uC, uR, uI, nu, v1_, v2_, v3_, v4_, (World.heap w').size, b1, m1_, m3_, (.tuple #[.agg #[.int .i64 gm, .int .i64 gs, v1_, v2_, v3_, v4_], .int .i64 gk]), m5_, m6_, m8_, (xI_ ha.out 4 hb_ rfl rfl rfl), pT HB.out hb, bb_ B0.out hb, bb_ BE.out hb, fun _ _ => Ye OT.out hb, fun _ _ => Ye OU.out hb, fun _ _ => ⟨hO, pZ HB.out⟩, Q_GA, fun h0_ h1_ => bb_ (Q_AZ0 h0_ h1_) hb, xA_ (hoff 9 rfl), xA_ (hoff 9 rfl), Q_X1_, Q_X3_, fun _ => rfl, xA_ (hoff 5 rfl), xA_ (hoff 6 rfl), Q_X8_⟩
  refine Za ?_ ?_
  ·rintro b a w' ⟨tA, tC, tR, tI, nt, uA, uC, uR, uI, nu, wA, wC, wR, wI, nw, b1, m1_, m3_, m4_, m5_, m6_, m8_, ha, Q_HB, Q_B0, Q_BE, Q_OT, Q_OU, Q_OW, Q_GA, Q_AZ0, Q_B1, Q_OV, Q_X1_, Q_X3_, Q_X4_, Q_X5_, Q_X6_, Q_X8_⟩ hb_ hon hoff
   refine ⟨_, rfl, fun K hK => ?_⟩
   have e32 := xG_ ha 4 rfl (hon 4 rfl) rfl rfl
   rw [Q_X4_ (hon 4 rfl)] at e32
   replace ha := AZ.mk ha
   refine Zg (w1 := w') (v := .tuple #[.agg #[.int .i64 gm, .int .i64 gs, wA, wC, wR, wI], .int .i64 gk]) (by rfl) rfl (by go_simp; (try simp only [i64_w]); try rfl) ?_
   refine hK.out _ _ ⟨tA, tC, tR, tI, nt, uA, uC, uR, uI, nu, wA, wC, wR, wI, nw, b1, m1_, m3_, m4_, (.tuple #[.agg #[.int .i64 gm, .int .i64 gs, wA, wC, wR, wI], .int .i64 gk]), m6_, m8_, (xI_ ha.out 5 hb_ rfl rfl rfl), Q_HB, Q_B0, Q_BE, Q_OT, Q_OU, Q_OW, Q_GA, Q_AZ0, xA_ (hoff 9 rfl), xA_ (hoff 9 rfl), Q_X1_, Q_X3_, Q_X4_, fun _ => rfl, xA_ (hoff 6 rfl), Q_X8_⟩
  refine Za ?_ ?_
  ·rintro b a w' ⟨tA, tC, tR, tI, nt, uA, uC, uR, uI, nu, wA, wC, wR, wI, nw, b1, m1_, m3_, m4_, m5_, m6_, m8_, ha, Q_HB, Q_B0, Q_BE, Q_OT, Q_OU, Q_OW, Q_GA, Q_AZ0, Q_B1, Q_OV, Q_X1_, Q_X3_, Q_X4_, Q_X5_, Q_X6_, Q_X8_⟩ hb_ hon hoff
   refine ⟨_, rfl, fun K hK => ?_⟩
   have e27 := xG_ ha 5 rfl (hon 5 rfl) rfl rfl
   rw [Q_X5_ (hon 5 rfl)] at e27
   replace ha := AZ.mk ha
   refine Zg (w1 := w') (v := .agg #[.int .i64 gm, .int .i64 gs, wA, wC, wR, wI]) (by rfl) rfl (by go_simp; (try simp only [i64_w]); try rfl) ?_
   refine hK.out _ _ ⟨tA, tC, tR, tI, nt, uA, uC, uR, uI, nu, wA, wC, wR, wI, nw, b1, m1_, m3_, m4_, m5_, (.agg #[.int .i64 gm, .int .i64 gs, wA, wC, wR, wI]), m8_, (xI_ ha.out 6 hb_ rfl rfl rfl), Q_HB, Q_B0, Q_BE, Q_OT, Q_OU, Q_OW, Q_GA, Q_AZ0, xA_ (hoff 9 rfl), xA_ (hoff 9 rfl), Q_X1_, Q_X3_, Q_X4_, Q_X5_, fun _ => rfl, Q_X8_⟩
  refine Za ?_ ?_
  ·rintro b a w' ⟨tA, tC, tR, tI, nt, uA, uC, uR, uI, nu, wA, wC, wR, wI, nw, b1, m1_, m3_, m4_, m5_, m6_, m8_, ha, Q_HB, Q_B0, Q_BE, Q_OT, Q_OU, Q_OW, Q_GA, Q_AZ0, Q_B1, Q_OV, Q_X1_, Q_X3_, Q_X4_, Q_X5_, Q_X6_, Q_X8_⟩ hb_ hon hoff
   refine ⟨_, rfl, fun K hK => ?_⟩
   have e27 := xG_ ha 5 rfl (hon 5 rfl) rfl rfl
   rw [Q_X5_ (hon 5 rfl)] at e27
   replace ha := AZ.mk ha
   refine Zg (w1 := w') (v := .int .i64 gk) (by rfl) rfl (by go_simp; (try simp only [i64_w]); try rfl) ?_
   refine hK.out _ _ ⟨tA, tC, tR, tI, nt, uA, uC, uR, uI, nu, wA, wC, wR, wI, nw, b1, m1_, m3_, m4_, m5_, m6_, m8_, (xI_ ha.out 7 hb_ rfl rfl rfl), Q_HB, Q_B0, Q_BE, Q_OT, Q_OU, Q_OW, Q_GA, Q_AZ0, Q_B1, Q_OV, Q_X1_, Q_X3_, Q_X4_, Q_X5_, Q_X6_, Q_X8_⟩
  refine Za ?_ ?_
  ·rintro b a w' ⟨tA, tC, tR, tI, nt, uA, uC, uR, uI, nu, wA, wC, wR, wI, nw, b1, m1_, m3_, m4_, m5_, m6_, m8_, ha, Q_HB, Q_B0, Q_BE, Q_OT, Q_OU, Q_OW, Q_GA, Q_AZ0, Q_B1, Q_OV, Q_X1_, Q_X3_, Q_X4_, Q_X5_, Q_X6_, Q_X8_⟩ hb_ hon hoff
   refine ⟨_, rfl, fun K hK => ?_⟩
   replace ha := AZ.mk ha
   have HB := AZ.mk Q_HB
   have B0 := AZ.mk Q_B0
   have BE := AZ.mk Q_BE
   refine Zg (w1 := ?_) (v := ?_) (by rfl) rfl ?_ ?_
   rotate_left 2
   ·go_simp
    constructor
    ·rfl
    ·rfl
   refine hK.out _ _ ⟨tA, tC, tR, tI, nt, uA, uC, uR, uI, nu, wA, wC, wR, wI, nw, w'.heap.size, m1_, m3_, m4_, m5_, m6_, (.pointer (some ⟨w'.heap.size, 0, none⟩)), (xI_ ha.out 8 hb_ rfl rfl rfl), pA HB.out _, ba_ B0.out _, ba_ BE.out _, fun h0_ h1_ => Ye (Q_OT h0_ h1_) (pA (Below.refl _ _) _), fun h0_ h1_ => Ye (Q_OU h0_ h1_) (pA (Below.refl _ _) _), fun h0_ h1_ => ⟨Ye (Q_OW h0_ h1_).1 (pA (Below.refl _ _) _), (Q_OW h0_ h1_).2⟩, fun _ => ⟨pZ HB.out, nL (Zv B0.out), nL (Zv BE.out)⟩, fun _ _ => heap_alloc_new w' _, xA_ (hoff 9 rfl), xA_ (hoff 9 rfl), Q_X1_, Q_X3_, Q_X4_, Q_X5_, Q_X6_, fun _ => rfl⟩
  refine Za ?_ ?_
  ·rintro b a w' ⟨tA, tC, tR, tI, nt, uA, uC, uR, uI, nu, wA, wC, wR, wI, nw, b1, m1_, m3_, m4_, m5_, m6_, m8_, ha, Q_HB, Q_B0, Q_BE, Q_OT, Q_OU, Q_OW, Q_GA, Q_AZ0, Q_B1, Q_OV, Q_X1_, Q_X3_, Q_X4_, Q_X5_, Q_X6_, Q_X8_⟩ hb_ hon hoff
   refine ⟨_, rfl, fun K hK => ?_⟩
   have e6 := xG_ ha 8 rfl (hon 8 rfl) rfl rfl
   rw [Q_X8_ (hon 8 rfl)] at e6
   have e33 := xG_ ha 6 rfl (hon 6 rfl) rfl rfl
   rw [Q_X6_ (hon 6 rfl)] at e33
   replace ha := AZ.mk ha
   have HB := AZ.mk Q_HB
   have B0 := AZ.mk Q_B0
   have BE := AZ.mk Q_BE
   have OW := AZ.mk (Q_OW (hon 4 rfl) hb_)
   have GA := AZ.mk (Q_GA (hon 8 rfl))
   have AZ0 := AZ.mk (Q_AZ0 (hon 8 rfl) hb_)
   refine store27_step (by rfl) rfl 6 33 rfl (g := b1) (old := cZ) (cs := (cellsI gm gs wA wC wR wI)) (Zt e6) (Zt e33) AZ0.out rfl rfl (cellsI_one _ _ (Reads.own OW.out.1)) ?_
   intro w_ hbx hB hfar
   refine hK.out _ _ ⟨tA, tC, tR, tI, nt, uA, uC, uR, uI, nu, wA, wC, wR, wI, nw, b1, m1_, m3_, m4_, m5_, m6_, m8_, (xJ_ ha.out rfl), (hB _ _ HB.out GA.out.1), ((hfar _ GA.out.2.1).trans B0.out), ((hfar _ GA.out.2.2).trans BE.out), xC_ (Yd b 9), xC_ (Yd b 9), xC_ (Yd b 9), Q_GA, xC_ (Yd b 9), fun _ => hbx, fun _ => own_far' (own_lower OW.out.1 OW.out.2) AZ0.out hfar, Q_X1_, Q_X3_, Q_X4_, Q_X5_, Q_X6_, Q_X8_⟩
  refine Za ?_ ?_
  ·rintro b a w' ⟨tA, tC, tR, tI, nt, uA, uC, uR, uI, nu, wA, wC, wR, wI, nw, b1, m1_, m3_, m4_, m5_, m6_, m8_, ha, Q_HB, Q_B0, Q_BE, Q_OT, Q_OU, Q_OW, Q_GA, Q_AZ0, Q_B1, Q_OV, Q_X1_, Q_X3_, Q_X4_, Q_X5_, Q_X6_, Q_X8_⟩ hb_ hon hoff
   refine ⟨_, rfl, fun K hK => ?_⟩
   have e34 := xG_ ha 7 rfl (hon 7 rfl) rfl rfl
   replace ha := AZ.mk ha
   refine Zg (w1 := w') (v := .int .i64 gk) (by rfl) rfl (by go_simp; (try simp only [i64_w]); try rfl) ?_
   refine hK.out _ _ ⟨tA, tC, tR, tI, nt, uA, uC, uR, uI, nu, wA, wC, wR, wI, nw, b1, m1_, m3_, m4_, m5_, m6_, m8_, (xI_ ha.out 9 hb_ rfl rfl rfl), Q_HB, Q_B0, Q_BE, xC_ (hon 9 rfl), xC_ (hon 9 rfl), xC_ (hon 9 rfl), Q_GA, xC_ (hon 9 rfl), Q_B1, Q_OV, Q_X1_, Q_X3_, Q_X4_, Q_X5_, Q_X6_, Q_X8_⟩
  exact steps_nil
 ·rintro b a w' hall ⟨tA, tC, tR, tI, nt, uA, uC, uR, uI, nu, wA, wC, wR, wI, nw, b1, m1_, m3_, m4_, m5_, m6_, m8_, ha, Q_HB, Q_B0, Q_BE, Q_OT, Q_OU, Q_OW, Q_GA, Q_AZ0, Q_B1, Q_OV, Q_X1_, Q_X3_, Q_X4_, Q_X5_, Q_X6_, Q_X8_⟩
  clear B0 BE HB
  have hb0_ := hall 0 (by kernel_rfl)
  have hb1_ := hall 1 (by kernel_rfl)
  have hb2_ := hall 2 (by kernel_rfl)
  have hb3_ := hall 3 (by kernel_rfl)
  have hb4_ := hall 4 (by kernel_rfl)
  have hb5_ := hall 5 (by kernel_rfl)
  have hb6_ := hall 6 (by kernel_rfl)
  have hb7_ := hall 7 (by kernel_rfl)
  have hb8_ := hall 8 (by kernel_rfl)
  have hb9_ := hall 9 (by kernel_rfl)
  have hb10_ := hall 10 (by kernel_rfl)
  subst ha
  obtain rfl := Q_X1_ hb1_
  obtain rfl := Q_X3_ hb3_
  obtain rfl := Q_X4_ hb4_
  obtain rfl := Q_X5_ hb5_
  obtain rfl := Q_X6_ hb6_
  obtain rfl := Q_X8_ hb8_
  simp only [Zz, hb0_, hb1_, hb2_, hb3_, hb4_, hb5_, hb6_, hb7_, hb8_, hb9_, hb10_, if_true, Act.put, sA, sB, sC]
  have HB := AZ.mk Q_HB
  clear Q_HB
  have B0 := AZ.mk Q_B0
  clear Q_B0
  have BE := AZ.mk Q_BE
  clear Q_BE
  clear Q_OT
  clear Q_OU
  clear Q_OW
  have GA := AZ.mk (Q_GA hb8_)
  clear Q_GA
  clear Q_AZ0
  have B1 := AZ.mk (Q_B1 hb9_)
  clear Q_B1
  have OV := AZ.mk (Q_OV hb9_)
  clear Q_OV
  clear hall hb0_ hb1_ hb2_ hb3_ hb4_ hb5_ hb6_ hb7_ hb8_ hb9_ hb10_
  obtain ⟨wS, rfl⟩ : ∃ z : World, z = w' := ⟨_, rfl⟩
  have KH := HB
  have K0 := B0
  have KE := BE
  have K1 := B1
  have KW := OV
  have LS := AZ.mk (Below.refl wS.heap.size wS)
  clear HB B0 BE B1 OV GA hHeld HT_ HW_
  go_wp2_with (first | ((with_reducible refine Zc (N := 35) rfl ?_); refine load39 rfl 2 rfl (g := b0) rfl (bb_ K0.out LS.out) hsA ?_; (try simp only [Act.put, sA, sB, sC])) | ((with_reducible refine Zc (N := 36) rfl ?_); refine Zi (some 36) rfl rfl Try.func23 (by kernel_rfl) rfl #[.agg cA] rfl (by (try simp only [mA, mB, mC]); first | done | rfl) ?_; refine (HT.out _ (pT KH.out LS.out)).mono ?_; rintro e Wx ⟨xA, xC, xR, xI, rfl, hO, hb⟩; refine ⟨_, rfl, ?_⟩; obtain ⟨loX, hlo⟩ : ∃ n : Nat, n = wS.heap.size := ⟨_, rfl⟩; rw [← hlo] at hO; have LOX := AZ.mk (show wS.heap.size ≤ loX by rw [hlo]; exact pZ LS.out); obtain ⟨hiX, hhi⟩ : ∃ n : Nat, n = Wx.heap.size := ⟨_, rfl⟩; have HHX := AZ.mk hhi; have LHX := AZ.mk (show loX ≤ hiX by rw [hlo, hhi]; exact hb.size); have IX := AZ.mk (own_bound hO (Below.refl _ _)); rw [← hhi] at IX; clear hO hlo hhi; replace LS := AZ.mk (pT LS.out hb); clear hb; (try simp only [Act.put, sA, sB, sC])) | ((with_reducible refine Zc (N := 8) rfl ?_); refine Zh rfl (N := 8) rfl (cs := cZ) (t := 27) (by go_simp; try rfl) ?_; intro bx hg Wbx hbx hb; have n9_ := AZ.mk hbx; have GLSbx := AZ.mk (show _ ≤ bx by rw [hg]; exact pZ LS.out); have NBX := AZ.mk (show hiX ≤ bx by rw [hg, HHX.out]; exact Nat.le_refl _); clear hbx hg; replace LS := AZ.mk (pT LS.out hb); replace IX := AZ.mk (Yf IX.out hb); clear hb; have Bx := n9_; clear n9_; (try simp only [Act.put, sA, sB, sC])) | ((with_reducible refine gate_ (.store 27 (.tmp 8) (.tmp 36)) rfl ?_); refine store27 rfl 8 36 rfl (g := bx) (old := cZ) (cs := (cellsI pa pb xA xC xR xI)) rfl rfl Bx.out rfl rfl (cellsI_one _ _ (Reads.own (ob_own IX.out))) ?_; intro Xbx hbx hB hfar; have n9_ := AZ.mk hbx; replace LS := AZ.mk (hB _ _ LS.out GLSbx.out); replace IX := AZ.mk (ob_far IX.out Bx.out hfar); clear Bx hbx hB hfar; have Bx := n9_; clear n9_; (try simp only [Act.put, sA, sB, sC])) | ((with_reducible refine Zc (N := 37) rfl ?_); refine load39 rfl 3 rfl (g := be) rfl (bb_ KE.out LS.out) hsD ?_; (try simp only [Act.put, sA, sB, sC])) | ((with_reducible refine Zc (N := 38) rfl ?_); refine Zi (some 38) rfl rfl Try.func23 (by kernel_rfl) rfl #[.agg cD] rfl (by (try simp only [mA, mB, mC]); first | done | rfl) ?_; refine (HT2.out _ (pT KH.out LS.out)).mono ?_; rintro e Wy ⟨yA, yC, yR, yI, rfl, hO, hb⟩; refine ⟨_, rfl, ?_⟩; obtain ⟨loY, hlo⟩ : ∃ n : Nat, n = Xbx.heap.size := ⟨_, rfl⟩; rw [← hlo] at hO; have LOY := AZ.mk (show wS.heap.size ≤ loY by rw [hlo]; exact pZ LS.out); have LXY := AZ.mk (show hiX ≤ loY by rw [hlo]; have := Zv Bx.out; have := NBX.out; omega); obtain ⟨hiY, hhi⟩ : ∃ n : Nat, n = Wy.heap.size := ⟨_, rfl⟩; have HHY := AZ.mk hhi; have LHY := AZ.mk (show loY ≤ hiY by rw [hlo, hhi]; exact hb.size); have IY := AZ.mk (own_bound hO (Below.refl _ _)); rw [← hhi] at IY; clear hO hlo hhi; replace LS := AZ.mk (pT LS.out hb); replace IX := AZ.mk (Yf IX.out hb); replace Bx := AZ.mk (bb_ Bx.out hb); clear hb; (try simp only [Act.put, sA, sB, sC])) | ((with_reducible refine Zc (N := 9) rfl ?_); refine Zh rfl (N := 9) rfl (cs := cZ) (t := 27) (by go_simp; try rfl) ?_; intro bw hg Wbw hbx hb; have n9_ := AZ.mk hbx; have GLSbw := AZ.mk (show _ ≤ bw by rw [hg]; exact pZ LS.out); have NEBxbw := AZ.mk (show bx ≠ bw by rw [hg]; exact nL (Zv Bx.out)); have NBY := AZ.mk (show hiY ≤ bw by rw [hg, HHY.out]; exact Nat.le_refl _); clear hbx hg; replace LS := AZ.mk (pT LS.out hb); replace IX := AZ.mk (Yf IX.out hb); replace Bx := AZ.mk (bb_ Bx.out hb); replace IY := AZ.mk (Yf IY.out hb); clear hb; have By := n9_; clear n9_; (try simp only [Act.put, sA, sB, sC])) | ((with_reducible refine gate_ (.store 27 (.tmp 9) (.tmp 38)) rfl ?_); refine store27 rfl 9 38 rfl (g := bw) (old := cZ) (cs := (cellsI qa qb yA yC yR yI)) rfl rfl By.out rfl rfl (cellsI_one _ _ (Reads.own (ob_own IY.out))) ?_; intro Xbw hbx hB hfar; have n9_ := AZ.mk hbx; replace LS := AZ.mk (hB _ _ LS.out GLSbw.out); replace IX := AZ.mk (ob_far IX.out By.out hfar); replace Bx := AZ.mk ((hfar _ NEBxbw.out).trans Bx.out); replace IY := AZ.mk (ob_far IY.out By.out hfar); clear By hbx hB hfar; have By := n9_; clear n9_; (try simp only [Act.put, sA, sB, sC])) | ((with_reducible refine Zc (N := 40) rfl ?_); refine load27 rfl 8 rfl (g := bx) rfl Bx.out rfl ?_; (try simp only [Act.put, sA, sB, sC])) | ((with_reducible refine Zc (N := 41) rfl ?_); refine load27 rfl 9 rfl (g := bw) rfl By.out rfl ?_; (try simp only [Act.put, sA, sB, sC])) | ((with_reducible refine Zc (N := 42) rfl ?_); refine Zi (some 42) rfl rfl Try.func28 (by kernel_rfl) rfl #[.agg (cellsI pa pb xA xC xR xI), .agg (cellsI qa qb yA yC yR yI)] rfl (by (try simp only [mA, mB, mC]); first | done | rfl) ?_; refine (HI.out _ _ _ _ _ _ _ _ _ (Reads.own (ob_own IX.out)) (Reads.own (ob_own IY.out))).mono ?_; rintro e Wg ⟨gA, gC, gR, gI, rfl, hO, hb⟩; refine ⟨_, rfl, ?_⟩; obtain ⟨loG, hlo⟩ : ∃ n : Nat, n = Xbw.heap.size := ⟨_, rfl⟩; rw [← hlo] at hO; have LOG := AZ.mk (show wS.heap.size ≤ loG by rw [hlo]; exact pZ LS.out); have LXG := AZ.mk (show hiX ≤ loG by rw [hlo]; have := Zv Bx.out; have := NBX.out; omega); have LYG := AZ.mk (show hiY ≤ loG by rw [hlo]; have := Zv By.out; have := NBY.out; omega); obtain ⟨hiG, hhi⟩ : ∃ n : Nat, n = Wg.heap.size := ⟨_, rfl⟩; have HHG := AZ.mk hhi; have LHG := AZ.mk (show loG ≤ hiG by rw [hlo, hhi]; exact hb.size); have IG := AZ.mk (own_bound hO (Below.refl _ _)); rw [← hhi] at IG; clear hO hlo hhi; replace LS := AZ.mk (pT LS.out hb); replace IX := AZ.mk (Yf IX.out hb); replace Bx := AZ.mk (bb_ Bx.out hb); replace IY := AZ.mk (Yf IY.out hb); replace By := AZ.mk (bb_ By.out hb); clear hb; (try simp only [Act.put, sA, sB, sC])) | ((with_reducible refine Zc (N := 10) rfl ?_); refine Zh rfl (N := 10) rfl (cs := cZ) (t := 27) (by go_simp; try rfl) ?_; intro b2 hg Wb2 hbx hb; have n9_ := AZ.mk hbx; have GLSb2 := AZ.mk (show _ ≤ b2 by rw [hg]; exact pZ LS.out); have NEBxb2 := AZ.mk (show bx ≠ b2 by rw [hg]; exact nL (Zv Bx.out)); have NEByb2 := AZ.mk (show bw ≠ b2 by rw [hg]; exact nL (Zv By.out)); have NBG := AZ.mk (show hiG ≤ b2 by rw [hg, HHG.out]; exact Nat.le_refl _); clear hbx hg; replace LS := AZ.mk (pT LS.out hb); replace IX := AZ.mk (Yf IX.out hb); replace Bx := AZ.mk (bb_ Bx.out hb); replace IY := AZ.mk (Yf IY.out hb); replace By := AZ.mk (bb_ By.out hb); replace IG := AZ.mk (Yf IG.out hb); clear hb; have B2 := n9_; clear n9_; (try simp only [Act.put, sA, sB, sC])) | ((with_reducible refine gate_ (.store 27 (.tmp 10) (.tmp 43)) rfl ?_); refine store27 rfl 10 43 rfl (g := b2) (old := cZ) (cs := (cellsI gm gs gA gC gR gI)) rfl rfl B2.out rfl rfl (cellsI_one _ _ (Reads.own (ob_own IG.out))) ?_; intro Xb2 hbx hB hfar; have n9_ := AZ.mk hbx; replace LS := AZ.mk (hB _ _ LS.out GLSb2.out); replace IX := AZ.mk (ob_far IX.out B2.out hfar); replace Bx := AZ.mk ((hfar _ NEBxb2.out).trans Bx.out); replace IY := AZ.mk (ob_far IY.out B2.out hfar); replace By := AZ.mk ((hfar _ NEByb2.out).trans By.out); replace IG := AZ.mk (ob_far IG.out B2.out hfar); clear B2 hbx hB hfar; have B2 := n9_; clear n9_; (try simp only [Act.put, sA, sB, sC])) | ((with_reducible refine Zc (N := 45) rfl ?_); refine load27 rfl 10 rfl (g := b2) rfl B2.out rfl ?_; (try simp only [Act.put, sA, sB, sC])) | ((with_reducible refine Zc (N := 46) rfl ?_); refine load27 rfl 6 rfl (g := b1) rfl (bb_ K1.out LS.out) rfl ?_; (try simp only [Act.put, sA, sB, sC])) | ((with_reducible refine Zc (N := 47) rfl ?_); refine Zi (some 47) rfl rfl Try.func12 (by kernel_rfl) rfl #[.agg (cellsI gm gs gA gC gR gI), .agg (cellsI gm gs wA wC wR wI)] rfl (by (try simp only [mA, mB, mC]); first | done | rfl) ?_; refine (eqS_calls kq gm gs (Reads.own (ob_own IG.out)) (Reads.own (Ye KW.out LS.out)) EQG.out).mono ?_; rintro e W5 ⟨rfl, hb⟩; refine ⟨_, rfl, ?_⟩; replace LS := AZ.mk (pT LS.out hb); replace IX := AZ.mk (Yf IX.out hb); replace Bx := AZ.mk (bb_ Bx.out hb); replace IY := AZ.mk (Yf IY.out hb); replace By := AZ.mk (bb_ By.out hb); replace IG := AZ.mk (Yf IG.out hb); replace B2 := AZ.mk (bb_ B2.out hb); clear hb; (try simp only [Act.put, sA, sB, sC])))
  refine start_ (n := 5) (S := fun w' => True) (ds := []) #[false, false, false, false, false] (by kernel_rfl) rfl rfl trivial (fun hHeld => ?_)
  refine Yh eith.tab14 eith.bits14 (fun HT_ HW_ => ?_)
  have n0_ := AZ.mk (pD LS.out)
  have n1_ := AZ.mk (Yf IX.out (below_drew (Below.refl _ _)))
  have n2_ := AZ.mk (bd_ Bx.out)
  have n3_ := AZ.mk (Yf IY.out (below_drew (Below.refl _ _)))
  have n4_ := AZ.mk (bd_ By.out)
  have n5_ := AZ.mk (Yf IG.out (below_drew (Below.refl _ _)))
  have n6_ := AZ.mk (bd_ B2.out)
  clear LS IX Bx IY By IG B2
  have LS := n0_
  have IX := n1_
  have Bx := n2_
  have IY := n3_
  have By := n4_
  have IG := n5_
  have B2 := n6_
  clear n0_ n1_ n2_ n3_ n4_ n5_ n6_
  generalize World.drew _ = wD at LS IX Bx IY By IG B2 hHeld ⊢
  refine inv_at [0, 1, 2, 3, 4] (fun a0_ b a w' => ∃ (zA : Value) (zC : Value) (zR : Value) (zI : Value) (nz : Nat) (m2_ : Value), a = Zz a0_ b [(0, 54, .agg (cellsI pa pb xA xC xR xI)), (1, 55, .agg cA), (2, 56, m2_), (3, 57, .bool true), (4, 58, .bool false)] ∧ (Below wS.heap.size wS w') ∧ (OwnB w' loX hiX xA xC xR xI l2 l3' l4 l5) ∧ (w'.heap[bx]? = some (.cells (cellsI pa pb xA xC xR xI) 27 (0, 0))) ∧ (OwnB w' loY hiY yA yC yR yI p2 p3' p4 p5) ∧ (w'.heap[bw]? = some (.cells (cellsI qa qb yA yC yR yI) 27 (0, 0))) ∧ (OwnB w' loG hiG gA gC gR gI gA' gC' gR' gI') ∧ (w'.heap[b2]? = some (.cells (cellsI gm gs gA gC gR gI) 27 (0, 0))) ∧ (b 2 = true → OwnC w' nz zA zC zR zI l2 l3' l4 l5) ∧ (b 2 = true → (m2_ : Value) = .agg (cellsI pa pb zA zC zR zI))) HT_.out HW_.out (by kernel_rfl) (by kernel_rfl) ?_ ?_ ?_
  ·exact ⟨.bool false, .bool false, .bool false, .bool false, 0, .bool false, by simp only [Zz, Bool.false_eq_true, if_false], LS.out, IX.out, Bx.out, IY.out, By.out, IG.out, B2.out, fun h_ => absurd h_ (by decide), fun h_ => absurd h_ (by decide)⟩
  ·skip
   clear B2 Bx By IG IX IY LS
   refine Za ?_ ?_
   ·rintro b a w' ⟨zA, zC, zR, zI, nz, m2_, ha, Q_LS, Q_IX, Q_Bx, Q_IY, Q_By, Q_IG, Q_B2, Q_OZ, Q_X2_⟩ hb_ hon hoff
    refine ⟨_, rfl, fun K hK => ?_⟩
    have e8 : a.tmps[8]? = some (.pointer (some ⟨bx, 0, none⟩)) := xH_ ha rfl rfl
    replace ha := AZ.mk ha
    have LS := AZ.mk Q_LS
    have IX := AZ.mk Q_IX
    have Bx := AZ.mk Q_Bx
    have IY := AZ.mk Q_IY
    have By := AZ.mk Q_By
    have IG := AZ.mk Q_IG
    have B2 := AZ.mk Q_B2
    refine load27_step (by rfl) (N := 54) rfl 8 rfl (g := bx) (Zt e8) Bx.out rfl ?_
    refine hK.out _ _ ⟨zA, zC, zR, zI, nz, m2_, (xI_ ha.out 0 hb_ rfl rfl rfl), LS.out, IX.out, Bx.out, IY.out, By.out, IG.out, B2.out, fun h0_ => (Q_OZ h0_), Q_X2_⟩
   refine Za ?_ ?_
   ·rintro b a w' ⟨zA, zC, zR, zI, nz, m2_, ha, Q_LS, Q_IX, Q_Bx, Q_IY, Q_By, Q_IG, Q_B2, Q_OZ, Q_X2_⟩ hb_ hon hoff
    refine ⟨_, rfl, fun K hK => ?_⟩
    have e2 : a.tmps[2]? = some (.pointer (some ⟨b0, 0, none⟩)) := xH_ ha rfl rfl
    replace ha := AZ.mk ha
    have LS := AZ.mk Q_LS
    have IX := AZ.mk Q_IX
    have Bx := AZ.mk Q_Bx
    have IY := AZ.mk Q_IY
    have By := AZ.mk Q_By
    have IG := AZ.mk Q_IG
    have B2 := AZ.mk Q_B2
    refine load39_step (by rfl) (N := 55) rfl 2 rfl (g := b0) (Zt e2) (bb_ K0.out LS.out) hsA ?_
    refine hK.out _ _ ⟨zA, zC, zR, zI, nz, m2_, (xI_ ha.out 1 hb_ rfl rfl rfl), LS.out, IX.out, Bx.out, IY.out, By.out, IG.out, B2.out, xA_ (hoff 2 rfl), xA_ (hoff 2 rfl)⟩
   refine Za ?_ ?_
   ·rintro b a w' ⟨zA, zC, zR, zI, nz, m2_, ha, Q_LS, Q_IX, Q_Bx, Q_IY, Q_By, Q_IG, Q_B2, Q_OZ, Q_X2_⟩ hb_ hon hoff
    refine ⟨_, rfl, fun K hK => ?_⟩
    have e55 := xG_ ha 1 rfl (hon 1 rfl) rfl rfl
    replace ha := AZ.mk ha
    have LS := AZ.mk Q_LS
    have IX := AZ.mk Q_IX
    have Bx := AZ.mk Q_Bx
    have IY := AZ.mk Q_IY
    have By := AZ.mk Q_By
    have IG := AZ.mk Q_IG
    have B2 := AZ.mk Q_B2
    refine goes_ Try.func23 (by kernel_rfl) rfl #[.agg cA] (by rfl) rfl rfl (by simp only [mA, mB, mC, Zt e55]) ?_
    refine (HT.out _ (pT KH.out LS.out)).mono ?_
    rintro e w_ ⟨v1_, v2_, v3_, v4_, rfl, hO, hb⟩
    refine ⟨_, rfl, ?_⟩
    refine hK.out _ _ ⟨v1_, v2_, v3_, v4_, (World.heap w').size, (.agg (cellsI pa pb v1_ v2_ v3_ v4_)), (xI_ ha.out 2 hb_ rfl rfl rfl), pT LS.out hb, Yf IX.out hb, bb_ Bx.out hb, Yf IY.out hb, bb_ By.out hb, Yf IG.out hb, bb_ B2.out hb, fun _ => hO, fun _ => rfl⟩
   refine Za ?_ ?_
   ·rintro b a w' ⟨zA, zC, zR, zI, nz, m2_, ha, Q_LS, Q_IX, Q_Bx, Q_IY, Q_By, Q_IG, Q_B2, Q_OZ, Q_X2_⟩ hb_ hon hoff
    refine ⟨_, rfl, fun K hK => ?_⟩
    have e54 := xG_ ha 0 rfl (hon 0 rfl) rfl rfl
    have e56 := xG_ ha 2 rfl (hon 2 rfl) rfl rfl
    rw [Q_X2_ (hon 2 rfl)] at e56
    replace ha := AZ.mk ha
    have LS := AZ.mk Q_LS
    have IX := AZ.mk Q_IX
    have Bx := AZ.mk Q_Bx
    have IY := AZ.mk Q_IY
    have By := AZ.mk Q_By
    have IG := AZ.mk Q_IG
    have B2 := AZ.mk Q_B2
    have OZ := AZ.mk (Q_OZ (hon 2 rfl))
    refine goes_ Try.func12 (by kernel_rfl) rfl #[.agg (cellsI pa pb xA xC xR xI), .agg (cellsI pa pb zA zC zR zI)] (by rfl) rfl rfl (by simp only [mA, mB, mC, Zt e54, Zt e56]) ?_
    refine (eqS_calls kq pa pb (Reads.own (ob_own IX.out)) (Reads.own OZ.out) EQX.out).mono ?_
    rintro e w_ ⟨rfl, hb⟩
    refine ⟨_, rfl, ?_⟩
    refine hK.out _ _ ⟨zA, zC, zR, zI, nz, m2_, (xI_ ha.out 3 hb_ rfl rfl rfl), pT LS.out hb, Yf IX.out hb, bb_ Bx.out hb, Yf IY.out hb, bb_ By.out hb, Yf IG.out hb, bb_ B2.out hb, fun _ => (Ye OZ.out hb), Q_X2_⟩
   refine Za ?_ ?_
   ·rintro b a w' ⟨zA, zC, zR, zI, nz, m2_, ha, Q_LS, Q_IX, Q_Bx, Q_IY, Q_By, Q_IG, Q_B2, Q_OZ, Q_X2_⟩ hb_ hon hoff
    refine ⟨_, rfl, fun K hK => ?_⟩
    have e57 := xG_ ha 3 rfl (hon 3 rfl) rfl rfl
    replace ha := AZ.mk ha
    refine Zg (w1 := w') (v := .bool false) (by rfl) rfl (by go_simp; (try simp only [i64_w]); try rfl) ?_
    refine hK.out _ _ ⟨zA, zC, zR, zI, nz, m2_, (xI_ ha.out 4 hb_ rfl rfl rfl), Q_LS, Q_IX, Q_Bx, Q_IY, Q_By, Q_IG, Q_B2, Q_OZ, Q_X2_⟩
   exact steps_nil
  ·rintro b a w' hall ⟨zA, zC, zR, zI, nz, m2_, ha, Q_LS, Q_IX, Q_Bx, Q_IY, Q_By, Q_IG, Q_B2, Q_OZ, Q_X2_⟩
   clear B2 Bx By IG IX IY LS
   have hb0_ := hall 0 (by kernel_rfl)
   have hb1_ := hall 1 (by kernel_rfl)
   have hb2_ := hall 2 (by kernel_rfl)
   have hb3_ := hall 3 (by kernel_rfl)
   have hb4_ := hall 4 (by kernel_rfl)
   subst ha
   obtain rfl := Q_X2_ hb2_
   simp only [Zz, hb0_, hb1_, hb2_, hb3_, hb4_, if_true, Act.put, sA, sB, sC]
   have LS := AZ.mk Q_LS
   clear Q_LS
   have IX := AZ.mk Q_IX
   clear Q_IX
   have Bx := AZ.mk Q_Bx
   clear Q_Bx
   have IY := AZ.mk Q_IY
   clear Q_IY
   have By := AZ.mk Q_By
   clear Q_By
   have IG := AZ.mk Q_IG
   clear Q_IG
   have B2 := AZ.mk Q_B2
   clear Q_B2
   have OZ := AZ.mk (Q_OZ hb2_)
   clear Q_OZ
   clear hall hb0_ hb1_ hb2_ hb3_ hb4_
   clear hHeld HT_ HW_ OZ
   go_wp2
   refine start_ (n := 5) (S := fun w' => True) (ds := []) #[false, false, false, false, false] (by kernel_rfl) rfl rfl trivial (fun hHeld => ?_)
   refine Yh eith.tab16 eith.bits16 (fun HT_ HW_ => ?_)
   have n0_ := AZ.mk (pD LS.out)
   have n1_ := AZ.mk (Yf IX.out (below_drew (Below.refl _ _)))
   have n2_ := AZ.mk (bd_ Bx.out)
   have n3_ := AZ.mk (Yf IY.out (below_drew (Below.refl _ _)))
   have n4_ := AZ.mk (bd_ By.out)
   have n5_ := AZ.mk (Yf IG.out (below_drew (Below.refl _ _)))
   have n6_ := AZ.mk (bd_ B2.out)
   clear LS IX Bx IY By IG B2
   have LS := n0_
   have IX := n1_
   have Bx := n2_
   have IY := n3_
   have By := n4_
   have IG := n5_
   have B2 := n6_
   clear n0_ n1_ n2_ n3_ n4_ n5_ n6_
   generalize World.drew _ = wD at LS IX Bx IY By IG B2 hHeld ⊢
   refine inv_at [0, 1, 2, 3, 4] (fun a0_ b a w' => ∃ (zA : Value) (zC : Value) (zR : Value) (zI : Value) (nz : Nat) (m2_ : Value), a = Zz a0_ b [(0, 59, .agg (cellsI qa qb yA yC yR yI)), (1, 60, .agg cD), (2, 61, m2_), (3, 62, .bool true), (4, 63, .bool false)] ∧ (Below wS.heap.size wS w') ∧ (OwnB w' loX hiX xA xC xR xI l2 l3' l4 l5) ∧ (w'.heap[bx]? = some (.cells (cellsI pa pb xA xC xR xI) 27 (0, 0))) ∧ (OwnB w' loY hiY yA yC yR yI p2 p3' p4 p5) ∧ (w'.heap[bw]? = some (.cells (cellsI qa qb yA yC yR yI) 27 (0, 0))) ∧ (OwnB w' loG hiG gA gC gR gI gA' gC' gR' gI') ∧ (w'.heap[b2]? = some (.cells (cellsI gm gs gA gC gR gI) 27 (0, 0))) ∧ (b 2 = true → OwnC w' nz zA zC zR zI p2 p3' p4 p5) ∧ (b 2 = true → (m2_ : Value) = .agg (cellsI qa qb zA zC zR zI))) HT_.out HW_.out (by kernel_rfl) (by kernel_rfl) ?_ ?_ ?_
   ·exact ⟨.bool false, .bool false, .bool false, .bool false, 0, .bool false, by simp only [Zz, Bool.false_eq_true, if_false], LS.out, IX.out, Bx.out, IY.out, By.out, IG.out, B2.out, fun h_ => absurd h_ (by decide), fun h_ => absurd h_ (by decide)⟩
   ·skip
    clear B2 Bx By IG IX IY LS
    refine Za ?_ ?_
    ·rintro b a w' ⟨zA, zC, zR, zI, nz, m2_, ha, Q_LS, Q_IX, Q_Bx, Q_IY, Q_By, Q_IG, Q_B2, Q_OZ, Q_X2_⟩ hb_ hon hoff
     refine ⟨_, rfl, fun K hK => ?_⟩
     have e9 : a.tmps[9]? = some (.pointer (some ⟨bw, 0, none⟩)) := xH_ ha rfl rfl
     replace ha := AZ.mk ha
     have LS := AZ.mk Q_LS
     have IX := AZ.mk Q_IX
     have Bx := AZ.mk Q_Bx
     have IY := AZ.mk Q_IY
     have By := AZ.mk Q_By
     have IG := AZ.mk Q_IG
     have B2 := AZ.mk Q_B2
     refine load27_step (by rfl) (N := 59) rfl 9 rfl (g := bw) (Zt e9) By.out rfl ?_
     refine hK.out _ _ ⟨zA, zC, zR, zI, nz, m2_, (xI_ ha.out 0 hb_ rfl rfl rfl), LS.out, IX.out, Bx.out, IY.out, By.out, IG.out, B2.out, fun h0_ => (Q_OZ h0_), Q_X2_⟩
    refine Za ?_ ?_
    ·rintro b a w' ⟨zA, zC, zR, zI, nz, m2_, ha, Q_LS, Q_IX, Q_Bx, Q_IY, Q_By, Q_IG, Q_B2, Q_OZ, Q_X2_⟩ hb_ hon hoff
     refine ⟨_, rfl, fun K hK => ?_⟩
     have e3 : a.tmps[3]? = some (.pointer (some ⟨be, 0, none⟩)) := xH_ ha rfl rfl
     replace ha := AZ.mk ha
     have LS := AZ.mk Q_LS
     have IX := AZ.mk Q_IX
     have Bx := AZ.mk Q_Bx
     have IY := AZ.mk Q_IY
     have By := AZ.mk Q_By
     have IG := AZ.mk Q_IG
     have B2 := AZ.mk Q_B2
     refine load39_step (by rfl) (N := 60) rfl 3 rfl (g := be) (Zt e3) (bb_ KE.out LS.out) hsD ?_
     refine hK.out _ _ ⟨zA, zC, zR, zI, nz, m2_, (xI_ ha.out 1 hb_ rfl rfl rfl), LS.out, IX.out, Bx.out, IY.out, By.out, IG.out, B2.out, xA_ (hoff 2 rfl), xA_ (hoff 2 rfl)⟩
    refine Za ?_ ?_
    ·rintro b a w' ⟨zA, zC, zR, zI, nz, m2_, ha, Q_LS, Q_IX, Q_Bx, Q_IY, Q_By, Q_IG, Q_B2, Q_OZ, Q_X2_⟩ hb_ hon hoff
     refine ⟨_, rfl, fun K hK => ?_⟩
     have e60 := xG_ ha 1 rfl (hon 1 rfl) rfl rfl
     replace ha := AZ.mk ha
     have LS := AZ.mk Q_LS
     have IX := AZ.mk Q_IX
     have Bx := AZ.mk Q_Bx
     have IY := AZ.mk Q_IY
     have By := AZ.mk Q_By
     have IG := AZ.mk Q_IG
     have B2 := AZ.mk Q_B2
     refine goes_ Try.func23 (by kernel_rfl) rfl #[.agg cD] (by rfl) rfl rfl (by simp only [mA, mB, mC, Zt e60]) ?_
     refine (HT2.out _ (pT KH.out LS.out)).mono ?_
     rintro e w_ ⟨v1_, v2_, v3_, v4_, rfl, hO, hb⟩
     refine ⟨_, rfl, ?_⟩
     refine hK.out _ _ ⟨v1_, v2_, v3_, v4_, (World.heap w').size, (.agg (cellsI qa qb v1_ v2_ v3_ v4_)), (xI_ ha.out 2 hb_ rfl rfl rfl), pT LS.out hb, Yf IX.out hb, bb_ Bx.out hb, Yf IY.out hb, bb_ By.out hb, Yf IG.out hb, bb_ B2.out hb, fun _ => hO, fun _ => rfl⟩
    refine Za ?_ ?_
    ·rintro b a w' ⟨zA, zC, zR, zI, nz, m2_, ha, Q_LS, Q_IX, Q_Bx, Q_IY, Q_By, Q_IG, Q_B2, Q_OZ, Q_X2_⟩ hb_ hon hoff
     refine ⟨_, rfl, fun K hK => ?_⟩
     have e59 := xG_ ha 0 rfl (hon 0 rfl) rfl rfl
     have e61 := xG_ ha 2 rfl (hon 2 rfl) rfl rfl
     rw [Q_X2_ (hon 2 rfl)] at e61
     replace ha := AZ.mk ha
     have LS := AZ.mk Q_LS
     have IX := AZ.mk Q_IX
     have Bx := AZ.mk Q_Bx
     have IY := AZ.mk Q_IY
     have By := AZ.mk Q_By
     have IG := AZ.mk Q_IG
     have B2 := AZ.mk Q_B2
     have OZ := AZ.mk (Q_OZ (hon 2 rfl))
     refine goes_ Try.func12 (by kernel_rfl) rfl #[.agg (cellsI qa qb yA yC yR yI), .agg (cellsI qa qb zA zC zR zI)] (by rfl) rfl rfl (by simp only [mA, mB, mC, Zt e59, Zt e61]) ?_
     refine (eqS_calls kq qa qb (Reads.own (ob_own IY.out)) (Reads.own OZ.out) EQY.out).mono ?_
     rintro e w_ ⟨rfl, hb⟩
     refine ⟨_, rfl, ?_⟩
     refine hK.out _ _ ⟨zA, zC, zR, zI, nz, m2_, (xI_ ha.out 3 hb_ rfl rfl rfl), pT LS.out hb, Yf IX.out hb, bb_ Bx.out hb, Yf IY.out hb, bb_ By.out hb, Yf IG.out hb, bb_ B2.out hb, fun _ => (Ye OZ.out hb), Q_X2_⟩
    refine Za ?_ ?_
    ·rintro b a w' ⟨zA, zC, zR, zI, nz, m2_, ha, Q_LS, Q_IX, Q_Bx, Q_IY, Q_By, Q_IG, Q_B2, Q_OZ, Q_X2_⟩ hb_ hon hoff
     refine ⟨_, rfl, fun K hK => ?_⟩
     have e62 := xG_ ha 3 rfl (hon 3 rfl) rfl rfl
     replace ha := AZ.mk ha
     refine Zg (w1 := w') (v := .bool false) (by rfl) rfl (by go_simp; (try simp only [i64_w]); try rfl) ?_
     refine hK.out _ _ ⟨zA, zC, zR, zI, nz, m2_, (xI_ ha.out 4 hb_ rfl rfl rfl), Q_LS, Q_IX, Q_Bx, Q_IY, Q_By, Q_IG, Q_B2, Q_OZ, Q_X2_⟩
    exact steps_nil
   ·rintro b a w' hall ⟨zA, zC, zR, zI, nz, m2_, ha, Q_LS, Q_IX, Q_Bx, Q_IY, Q_By, Q_IG, Q_B2, Q_OZ, Q_X2_⟩
    clear B2 Bx By IG IX IY LS
    have hb0_ := hall 0 (by kernel_rfl)
    have hb1_ := hall 1 (by kernel_rfl)
    have hb2_ := hall 2 (by kernel_rfl)
    have hb3_ := hall 3 (by kernel_rfl)
    have hb4_ := hall 4 (by kernel_rfl)
    subst ha
    obtain rfl := Q_X2_ hb2_
    simp only [Zz, hb0_, hb1_, hb2_, hb3_, hb4_, if_true, Act.put, sA, sB, sC]
    have LS := AZ.mk Q_LS
    clear Q_LS
    have IX := AZ.mk Q_IX
    clear Q_IX
    have Bx := AZ.mk Q_Bx
    clear Q_Bx
    have IY := AZ.mk Q_IY
    clear Q_IY
    have By := AZ.mk Q_By
    clear Q_By
    have IG := AZ.mk Q_IG
    clear Q_IG
    have B2 := AZ.mk Q_B2
    clear Q_B2
    have OZ := AZ.mk (Q_OZ hb2_)
    clear Q_OZ
    clear hall hb0_ hb1_ hb2_ hb3_ hb4_
    clear hHeld HT_ HW_ OZ
    have LXYH := AZ.mk (Nat.le_trans LXY.out LHY.out)
    go_wp2_with (first | ((with_reducible refine Zc (N := 64) rfl ?_); refine load27 rfl 8 rfl (g := bx) rfl Bx.out rfl ?_; (try simp only [Act.put, sA, sB, sC])) | ((with_reducible refine Zc (N := 66) rfl ?_); refine Zi (some 66) rfl rfl Try.func13 (by kernel_rfl) rfl #[.agg (cellsI pa pb xA xC xR xI), .int .i64 1] rfl (by (try simp only [mA, mB, mC]); first | done | rfl) ?_; refine (markChecker_keptN 1 (by decide) wS _ hiX (by have := Zv Bx.out; have := NBX.out; omega) pa pb xA xC xR xI l2 l3' l4 l5 OKX.out LS.out (ob_lower IX.out LOX.out) b2 _ B2.out).mono ?_; rintro e Wm ⟨rfl, _, hb, hg, hkp⟩; rw [← HQX.out]; refine ⟨_, rfl, ?_⟩; have n0_ := AZ.mk hb; have n1_ := AZ.mk (ob_kept IY.out hkp LXY.out); have n2_ := AZ.mk (ob_kept IG.out hkp LXG.out); have n3_ := AZ.mk ((hkp.2 bw (Zv By.out) (fun h_ => absurd h_ (by have := NBY.out; have := LXYH.out; omega))).trans By.out); have n4_ := AZ.mk hg; clear LS IX Bx IY By IG B2 hb hg hkp; have LS := n0_; have IY := n1_; have IG := n2_; have By := n3_; have B2 := n4_; clear n0_ n1_ n2_ n3_ n4_; (try simp only [Act.put, sA, sB, sC])) | ((with_reducible refine Zc (N := 67) rfl ?_); refine load27 rfl 9 rfl (g := bw) rfl By.out rfl ?_; (try simp only [Act.put, sA, sB, sC])) | ((with_reducible refine Zc (N := 69) rfl ?_); refine Zi (some 69) rfl rfl Try.func13 (by kernel_rfl) rfl #[.agg (cellsI qa qb yA yC yR yI), .int .i64 qx] rfl (by (try simp only [mA, mB, mC]); first | done | rfl) ?_; refine (markChecker_keptN qx HQB.out wS _ hiY (by have := Zv By.out; have := NBY.out; omega) qa qb yA yC yR yI p2 p3' p4 p5 OKY.out LS.out (ob_lower IY.out LOY.out) b2 _ B2.out).mono ?_; rintro e Wn ⟨rfl, _, hb, hg, hkp⟩; rw [← HQY.out]; refine ⟨_, rfl, ?_⟩; have n0_ := AZ.mk hb; have n2_ := AZ.mk (ob_kept IG.out hkp LYG.out); have n4_ := AZ.mk hg; clear LS IY By IG B2 hb hg hkp; have LS := n0_; have IG := n2_; have B2 := n4_; clear n0_ n2_ n4_; (try simp only [Act.put, sA, sB, sC])) | ((with_reducible refine Zc (N := 73) rfl ?_); refine gate_guard (by rfl) ?_; refine load27 rfl 10 rfl (g := b2) rfl B2.out rfl ?_; (try simp only [Act.put, sA, sB, sC])) | ((with_reducible refine Zc (N := 74) rfl ?_); refine gate_guard (by rfl) ?_; refine load27 rfl 6 rfl (g := b1) rfl (bb_ K1.out LS.out) rfl ?_; (try simp only [Act.put, sA, sB, sC])) | ((with_reducible refine Zc (N := 75) rfl ?_); refine gate_guard (by rfl) ?_; refine Zi (some 75) rfl rfl Try.func12 (by kernel_rfl) rfl #[.agg (cellsI gm gs gA gC gR gI), .agg (cellsI gm gs wA wC wR wI)] rfl (by (try simp only [mA, mB, mC]); first | done | rfl) ?_; refine (eqS_calls kq gm gs (Reads.own (ob_own IG.out)) (Reads.own (Ye KW.out LS.out)) EQG.out).mono ?_; rintro e W75 ⟨rfl, hb⟩; refine ⟨_, rfl, ?_⟩; replace LS := AZ.mk (pT LS.out hb); replace IG := AZ.mk (Yf IG.out hb); replace B2 := AZ.mk (bb_ B2.out hb); clear hb; (try simp only [Act.put, sA, sB, sC])) | ((with_reducible refine Zc (N := 83) rfl ?_); refine load27 rfl 10 rfl (g := b2) rfl B2.out rfl ?_; (try simp only [Act.put, sA, sB, sC])) | ((with_reducible refine Zc (N := 85) rfl ?_); refine Zi (some 85) rfl rfl Try.func13 (by kernel_rfl) rfl #[.agg (cellsI gm gs gA gC gR gI), .int .i64 1] rfl (by (try simp only [mA, mB, mC]); first | done | rfl) ?_; refine (markChecker_keptN 1 (by decide) wS _ hiG (by have := Zv B2.out; have := NBG.out; omega) gm gs gA gC gR gI gA' gC' gR' gI' OKG.out LS.out (ob_lower IG.out LOG.out) b2 _ B2.out).mono ?_; rintro e Wk ⟨rfl, hO, hb, hg, _⟩; rw [← HQG.out]; refine ⟨_, rfl, ?_⟩; have n0_ := AZ.mk hb; have n4_ := AZ.mk hg; clear LS IG B2 hb hg; have LS := n0_; have B2 := n4_; clear n0_ n4_; have OM := AZ.mk (show OwnC Wk wS.heap.size gA gC gR gI (markA gA') (mks szP mkP gC' (numC gA')) (mks szII mkII gR' (numR gA' gC')) (mkII gI' (numI gA' gC' gR')) from hO); clear hO; (try simp only [Act.put, sA, sB, sC])) | ((with_reducible refine Zc (N := 86) rfl ?_); refine load27 rfl 10 rfl (g := b2) rfl B2.out rfl ?_; (try simp only [Act.put, sA, sB, sC])) | ((with_reducible refine Zc (N := 88) rfl ?_); refine Zi (some 88) rfl rfl Try.func14 (by kernel_rfl) rfl #[.agg (cellsI gm gs gA gC gR gI), .int .i64 1] rfl (by (try simp only [mA, mB, mC]); first | done | rfl) ?_; refine (heldS_calls gm gs OKG.out (Reads.own OM.out)).mono ?_; rintro e W88 ⟨rfl, hb⟩; rw [← HQG2.out]; refine ⟨_, rfl, ?_⟩; replace LS := AZ.mk (pT LS.out hb); replace OM := AZ.mk (Ye OM.out hb); replace B2 := AZ.mk (bb_ B2.out hb); clear hb; (try simp only [Act.put, sA, sB, sC])))
    refine start_ (n := 11) (S := fun w' => True) (ds := []) (bz 11 0) (by kernel_rfl) rfl rfl trivial (fun hHeld => ?_)
    refine Yh eith.tab31 eith.bits31 (fun HT_ HW_ => ?_)
    have n0_ := AZ.mk (pD LS.out)
    have n1_ := AZ.mk (bd_ B2.out)
    have n2_ := AZ.mk (Ye OM.out (below_drew (Below.refl _ _)))
    clear LS B2 OM
    have LS := n0_
    have B2 := n1_
    have OM := n2_
    clear n0_ n1_ n2_
    generalize World.drew _ = wD at LS B2 OM hHeld ⊢
    refine inv_at [0, 1, 2, 3, 4, 5, 6, 7, 8, 9, 10] (fun a0_ b a w' => ∃ (tA : Value) (tC : Value) (tR : Value) (tI : Value) (nt : Nat) (uA : Value) (uC : Value) (uR : Value) (uI : Value) (nu : Nat) (hA : Value) (hC : Value) (hR : Value) (hI : Value) (nw : Nat) (b5 : Nat) (m1_ : Value) (m3_ : Value) (m4_ : Value) (m5_ : Value) (m6_ : Value) (m8_ : Value), a = Zz a0_ b [(0, 95, .agg cA), (1, 96, m1_), (2, 97, .agg cD), (3, 98, m3_), (4, 99, m4_), (5, 94, m5_), (6, 100, m6_), (7, 101, .int .i64 gk), (8, 15, m8_), (10, 16, .int .i64 gk)] ∧ (Below wS.heap.size wS w') ∧ (w'.heap[b2]? = some (.cells (cellsI gm gs gA gC gR gI) 27 (0, 0))) ∧ (OwnC w' wS.heap.size gA gC gR gI (markA gA') (mks szP mkP gC' (numC gA')) (mks szII mkII gR' (numR gA' gC')) (mkII gI' (numI gA' gC' gR'))) ∧ (b 1 = true → b 9 = false → OwnC w' nt tA tC tR tI l2 l3' l4 l5) ∧ (b 3 = true → b 9 = false → OwnC w' nu uA uC uR uI p2 p3' p4 p5) ∧ (b 4 = true → b 9 = false → OwnC w' nw hA hC hR hI gA' gC' gR' gI' ∧ wS.heap.size ≤ nw) ∧ (b 8 = true → wS.heap.size ≤ b5 ∧ b2 ≠ b5) ∧ (b 8 = true → b 9 = false → w'.heap[b5]? = some (.cells cZ 27 (0, 0))) ∧ (b 9 = true → w'.heap[b5]? = some (.cells (cellsI gm gs hA hC hR hI) 27 (0, 0))) ∧ (b 9 = true → OwnC w' wS.heap.size hA hC hR hI gA' gC' gR' gI') ∧ (b 1 = true → (m1_ : Value) = .agg (cellsI pa pb tA tC tR tI)) ∧ (b 3 = true → (m3_ : Value) = .agg (cellsI qa qb uA uC uR uI)) ∧ (b 4 = true → (m4_ : Value) = .tuple #[.agg #[.int .i64 gm, .int .i64 gs, hA, hC, hR, hI], .int .i64 gk]) ∧ (b 5 = true → (m5_ : Value) = .tuple #[.agg #[.int .i64 gm, .int .i64 gs, hA, hC, hR, hI], .int .i64 gk]) ∧ (b 6 = true → (m6_ : Value) = .agg #[.int .i64 gm, .int .i64 gs, hA, hC, hR, hI]) ∧ (b 8 = true → (m8_ : Value) = .pointer (some ⟨b5, 0, none⟩))) HT_.out HW_.out (by kernel_rfl) (by kernel_rfl) ?_ ?_ ?_
    ·exact ⟨.bool false, .bool false, .bool false, .bool false, 0, .bool false, .bool false, .bool false, .bool false, 0, .bool false, .bool false, .bool false, .bool false, 0, 0, .bool false, .bool false, .bool false, .bool false, .bool false, .bool false, by simp only [Zz, Bool.false_eq_true, if_false], LS.out, B2.out, OM.out, fun h_ => absurd h_ (by decide), fun h_ => absurd h_ (by decide), fun h_ => absurd h_ (by decide), fun h_ => absurd h_ (by decide), fun h_ => absurd h_ (by decide), fun h_ => absurd h_ (by decide), fun h_ => absurd h_ (by decide), fun h_ => absurd h_ (by decide), fun h_ => absurd h_ (by decide), fun h_ => absurd h_ (by decide), fun h_ => absurd h_ (by decide), fun h_ => absurd h_ (by decide), fun h_ => absurd h_ (by decide)⟩
    ·skip
     clear B2 LS OM
     refine Za ?_ ?_
     ·rintro b a w' ⟨tA, tC, tR, tI, nt, uA, uC, uR, uI, nu, hA, hC, hR, hI, nw, b5, m1_, m3_, m4_, m5_, m6_, m8_, ha, Q_LS, Q_B2, Q_OM, Q_OT, Q_OU, Q_OW, Q_GA, Q_AZ0, Q_B5, Q_OV, Q_X1_, Q_X3_, Q_X4_, Q_X5_, Q_X6_, Q_X8_⟩ hb_ hon hoff
      refine ⟨_, rfl, fun K hK => ?_⟩
      have e2 : a.tmps[2]? = some (.pointer (some ⟨b0, 0, none⟩)) := xH_ ha rfl rfl
      replace ha := AZ.mk ha
      have LS := AZ.mk Q_LS
      have B2 := AZ.mk Q_B2
      have OM := AZ.mk Q_OM
      refine load39_step (by rfl) (N := 95) rfl 2 rfl (g := b0) (Zt e2) (bb_ K0.out LS.out) hsA ?_
      refine hK.out _ _ ⟨tA, tC, tR, tI, nt, uA, uC, uR, uI, nu, hA, hC, hR, hI, nw, b5, m1_, m3_, m4_, m5_, m6_, m8_, (xI_ ha.out 0 hb_ rfl rfl rfl), LS.out, B2.out, OM.out, xB_ (hoff 1 rfl), xB_ (hoff 3 rfl), xB_ (hoff 4 rfl), Q_GA, fun h0_ h1_ => (Q_AZ0 h0_ h1_), xA_ (hoff 9 rfl), xA_ (hoff 9 rfl), xA_ (hoff 1 rfl), xA_ (hoff 3 rfl), xA_ (hoff 4 rfl), xA_ (hoff 5 rfl), xA_ (hoff 6 rfl), Q_X8_⟩
     refine Za ?_ ?_
     ·rintro b a w' ⟨tA, tC, tR, tI, nt, uA, uC, uR, uI, nu, hA, hC, hR, hI, nw, b5, m1_, m3_, m4_, m5_, m6_, m8_, ha, Q_LS, Q_B2, Q_OM, Q_OT, Q_OU, Q_OW, Q_GA, Q_AZ0, Q_B5, Q_OV, Q_X1_, Q_X3_, Q_X4_, Q_X5_, Q_X6_, Q_X8_⟩ hb_ hon hoff
      refine ⟨_, rfl, fun K hK => ?_⟩
      have e95 := xG_ ha 0 rfl (hon 0 rfl) rfl rfl
      replace ha := AZ.mk ha
      have LS := AZ.mk Q_LS
      have B2 := AZ.mk Q_B2
      have OM := AZ.mk Q_OM
      refine goes_ Try.func23 (by kernel_rfl) rfl #[.agg cA] (by rfl) rfl rfl (by simp only [mA, mB, mC, Zt e95]) ?_
      refine (HT.out _ (pT KH.out LS.out)).mono ?_
      rintro e w_ ⟨v1_, v2_, v3_, v4_, rfl, hO, hb⟩
      refine ⟨_, rfl, ?_⟩
      refine hK.out _ _ ⟨v1_, v2_, v3_, v4_, (World.heap w').size, uA, uC, uR, uI, nu, hA, hC, hR, hI, nw, b5, (.agg (cellsI pa pb v1_ v2_ v3_ v4_)), m3_, m4_, m5_, m6_, m8_, (xI_ ha.out 1 hb_ rfl rfl rfl), pT LS.out hb, bb_ B2.out hb, Ye OM.out hb, fun _ _ => hO, xB_ (hoff 3 rfl), xB_ (hoff 4 rfl), Q_GA, fun h0_ h1_ => bb_ (Q_AZ0 h0_ h1_) hb, xA_ (hoff 9 rfl), xA_ (hoff 9 rfl), fun _ => rfl, xA_ (hoff 3 rfl), xA_ (hoff 4 rfl), xA_ (hoff 5 rfl), xA_ (hoff 6 rfl), Q_X8_⟩
     refine Za ?_ ?_
     ·rintro b a w' ⟨tA, tC, tR, tI, nt, uA, uC, uR, uI, nu, hA, hC, hR, hI, nw, b5, m1_, m3_, m4_, m5_, m6_, m8_, ha, Q_LS, Q_B2, Q_OM, Q_OT, Q_OU, Q_OW, Q_GA, Q_AZ0, Q_B5, Q_OV, Q_X1_, Q_X3_, Q_X4_, Q_X5_, Q_X6_, Q_X8_⟩ hb_ hon hoff
      refine ⟨_, rfl, fun K hK => ?_⟩
      have e3 : a.tmps[3]? = some (.pointer (some ⟨be, 0, none⟩)) := xH_ ha rfl rfl
      replace ha := AZ.mk ha
      have LS := AZ.mk Q_LS
      have B2 := AZ.mk Q_B2
      have OM := AZ.mk Q_OM
      refine load39_step (by rfl) (N := 97) rfl 3 rfl (g := be) (Zt e3) (bb_ KE.out LS.out) hsD ?_
      refine hK.out _ _ ⟨tA, tC, tR, tI, nt, uA, uC, uR, uI, nu, hA, hC, hR, hI, nw, b5, m1_, m3_, m4_, m5_, m6_, m8_, (xI_ ha.out 2 hb_ rfl rfl rfl), LS.out, B2.out, OM.out, fun h0_ h1_ => (Q_OT h0_ h1_), xB_ (hoff 3 rfl), xB_ (hoff 4 rfl), Q_GA, fun h0_ h1_ => (Q_AZ0 h0_ h1_), xA_ (hoff 9 rfl), xA_ (hoff 9 rfl), Q_X1_, xA_ (hoff 3 rfl), xA_ (hoff 4 rfl), xA_ (hoff 5 rfl), xA_ (hoff 6 rfl), Q_X8_⟩
     refine Za ?_ ?_
     ·rintro b a w' ⟨tA, tC, tR, tI, nt, uA, uC, uR, uI, nu, hA, hC, hR, hI, nw, b5, m1_, m3_, m4_, m5_, m6_, m8_, ha, Q_LS, Q_B2, Q_OM, Q_OT, Q_OU, Q_OW, Q_GA, Q_AZ0, Q_B5, Q_OV, Q_X1_, Q_X3_, Q_X4_, Q_X5_, Q_X6_, Q_X8_⟩ hb_ hon hoff
      refine ⟨_, rfl, fun K hK => ?_⟩
      have e97 := xG_ ha 2 rfl (hon 2 rfl) rfl rfl
      replace ha := AZ.mk ha
      have LS := AZ.mk Q_LS
      have B2 := AZ.mk Q_B2
      have OM := AZ.mk Q_OM
      have OT := AZ.mk (Q_OT (hon 1 rfl) (hoff 9 rfl))
      refine goes_ Try.func23 (by kernel_rfl) rfl #[.agg cD] (by rfl) rfl rfl (by simp only [mA, mB, mC, Zt e97]) ?_
      refine (HT2.out _ (pT KH.out LS.out)).mono ?_
      rintro e w_ ⟨v1_, v2_, v3_, v4_, rfl, hO, hb⟩
      refine ⟨_, rfl, ?_⟩
      refine hK.out _ _ ⟨tA, tC, tR, tI, nt, v1_, v2_, v3_, v4_, (World.heap w').size, hA, hC, hR, hI, nw, b5, m1_, (.agg (cellsI qa qb v1_ v2_ v3_ v4_)), m4_, m5_, m6_, m8_, (xI_ ha.out 3 hb_ rfl rfl rfl), pT LS.out hb, bb_ B2.out hb, Ye OM.out hb, fun _ _ => Ye OT.out hb, fun _ _ => hO, xB_ (hoff 4 rfl), Q_GA, fun h0_ h1_ => bb_ (Q_AZ0 h0_ h1_) hb, xA_ (hoff 9 rfl), xA_ (hoff 9 rfl), Q_X1_, fun _ => rfl, xA_ (hoff 4 rfl), xA_ (hoff 5 rfl), xA_ (hoff 6 rfl), Q_X8_⟩
     refine Za ?_ ?_
     ·rintro b a w' ⟨tA, tC, tR, tI, nt, uA, uC, uR, uI, nu, hA, hC, hR, hI, nw, b5, m1_, m3_, m4_, m5_, m6_, m8_, ha, Q_LS, Q_B2, Q_OM, Q_OT, Q_OU, Q_OW, Q_GA, Q_AZ0, Q_B5, Q_OV, Q_X1_, Q_X3_, Q_X4_, Q_X5_, Q_X6_, Q_X8_⟩ hb_ hon hoff
      refine ⟨_, rfl, fun K hK => ?_⟩
      have e96 := xG_ ha 1 rfl (hon 1 rfl) rfl rfl
      rw [Q_X1_ (hon 1 rfl)] at e96
      have e98 := xG_ ha 3 rfl (hon 3 rfl) rfl rfl
      rw [Q_X3_ (hon 3 rfl)] at e98
      replace ha := AZ.mk ha
      have LS := AZ.mk Q_LS
      have B2 := AZ.mk Q_B2
      have OM := AZ.mk Q_OM
      have OT := AZ.mk (Q_OT (hon 1 rfl) (hoff 9 rfl))
      have OU := AZ.mk (Q_OU (hon 3 rfl) (hoff 9 rfl))
      refine goes_ Try.func28 (by kernel_rfl) rfl #[.agg (cellsI pa pb tA tC tR tI), .agg (cellsI qa qb uA uC uR uI)] (by rfl) rfl rfl (by simp only [mA, mB, mC, Zt e96, Zt e98]) ?_
      refine (HI.out _ _ _ _ _ _ _ _ _ (Reads.own OT.out) (Reads.own OU.out)).mono ?_
      rintro e w_ ⟨v1_, v2_, v3_, v4_, rfl, hO, hb⟩
      refine ⟨_, rfl, ?_⟩
      refine hK.out _ _ ⟨tA, tC, tR, tI, nt, uA, uC, uR, uI, nu, v1_, v2_, v3_, v4_, (World.heap w').size, b5, m1_, m3_, (.tuple #[.agg #[.int .i64 gm, .int .i64 gs, v1_, v2_, v3_, v4_], .int .i64 gk]), m5_, m6_, m8_, (xI_ ha.out 4 hb_ rfl rfl rfl), pT LS.out hb, bb_ B2.out hb, Ye OM.out hb, fun _ _ => Ye OT.out hb, fun _ _ => Ye OU.out hb, fun _ _ => ⟨hO, pZ LS.out⟩, Q_GA, fun h0_ h1_ => bb_ (Q_AZ0 h0_ h1_) hb, xA_ (hoff 9 rfl), xA_ (hoff 9 rfl), Q_X1_, Q_X3_, fun _ => rfl, xA_ (hoff 5 rfl), xA_ (hoff 6 rfl), Q_X8_⟩
     refine Za ?_ ?_
     ·rintro b a w' ⟨tA, tC, tR, tI, nt, uA, uC, uR, uI, nu, hA, hC, hR, hI, nw, b5, m1_, m3_, m4_, m5_, m6_, m8_, ha, Q_LS, Q_B2, Q_OM, Q_OT, Q_OU, Q_OW, Q_GA, Q_AZ0, Q_B5, Q_OV, Q_X1_, Q_X3_, Q_X4_, Q_X5_, Q_X6_, Q_X8_⟩ hb_ hon hoff
      refine ⟨_, rfl, fun K hK => ?_⟩
      have e99 := xG_ ha 4 rfl (hon 4 rfl) rfl rfl
      rw [Q_X4_ (hon 4 rfl)] at e99
      replace ha := AZ.mk ha
      refine Zg (w1 := w') (v := .tuple #[.agg #[.int .i64 gm, .int .i64 gs, hA, hC, hR, hI], .int .i64 gk]) (by rfl) rfl (by go_simp; (try simp only [i64_w]); try rfl) ?_
      refine hK.out _ _ ⟨tA, tC, tR, tI, nt, uA, uC, uR, uI, nu, hA, hC, hR, hI, nw, b5, m1_, m3_, m4_, (.tuple #[.agg #[.int .i64 gm, .int .i64 gs, hA, hC, hR, hI], .int .i64 gk]), m6_, m8_, (xI_ ha.out 5 hb_ rfl rfl rfl), Q_LS, Q_B2, Q_OM, Q_OT, Q_OU, Q_OW, Q_GA, Q_AZ0, xA_ (hoff 9 rfl), xA_ (hoff 9 rfl), Q_X1_, Q_X3_, Q_X4_, fun _ => rfl, xA_ (hoff 6 rfl), Q_X8_⟩
     refine Za ?_ ?_
     ·rintro b a w' ⟨tA, tC, tR, tI, nt, uA, uC, uR, uI, nu, hA, hC, hR, hI, nw, b5, m1_, m3_, m4_, m5_, m6_, m8_, ha, Q_LS, Q_B2, Q_OM, Q_OT, Q_OU, Q_OW, Q_GA, Q_AZ0, Q_B5, Q_OV, Q_X1_, Q_X3_, Q_X4_, Q_X5_, Q_X6_, Q_X8_⟩ hb_ hon hoff
      refine ⟨_, rfl, fun K hK => ?_⟩
      have e94 := xG_ ha 5 rfl (hon 5 rfl) rfl rfl
      rw [Q_X5_ (hon 5 rfl)] at e94
      replace ha := AZ.mk ha
      refine Zg (w1 := w') (v := .agg #[.int .i64 gm, .int .i64 gs, hA, hC, hR, hI]) (by rfl) rfl (by go_simp; (try simp only [i64_w]); try rfl) ?_
      refine hK.out _ _ ⟨tA, tC, tR, tI, nt, uA, uC, uR, uI, nu, hA, hC, hR, hI, nw, b5, m1_, m3_, m4_, m5_, (.agg #[.int .i64 gm, .int .i64 gs, hA, hC, hR, hI]), m8_, (xI_ ha.out 6 hb_ rfl rfl rfl), Q_LS, Q_B2, Q_OM, Q_OT, Q_OU, Q_OW, Q_GA, Q_AZ0, xA_ (hoff 9 rfl), xA_ (hoff 9 rfl), Q_X1_, Q_X3_, Q_X4_, Q_X5_, fun _ => rfl, Q_X8_⟩
     refine Za ?_ ?_
     ·rintro b a w' ⟨tA, tC, tR, tI, nt, uA, uC, uR, uI, nu, hA, hC, hR, hI, nw, b5, m1_, m3_, m4_, m5_, m6_, m8_, ha, Q_LS, Q_B2, Q_OM, Q_OT, Q_OU, Q_OW, Q_GA, Q_AZ0, Q_B5, Q_OV, Q_X1_, Q_X3_, Q_X4_, Q_X5_, Q_X6_, Q_X8_⟩ hb_ hon hoff
      refine ⟨_, rfl, fun K hK => ?_⟩
      have e94 := xG_ ha 5 rfl (hon 5 rfl) rfl rfl
      rw [Q_X5_ (hon 5 rfl)] at e94
      replace ha := AZ.mk ha
      refine Zg (w1 := w') (v := .int .i64 gk) (by rfl) rfl (by go_simp; (try simp only [i64_w]); try rfl) ?_
      refine hK.out _ _ ⟨tA, tC, tR, tI, nt, uA, uC, uR, uI, nu, hA, hC, hR, hI, nw, b5, m1_, m3_, m4_, m5_, m6_, m8_, (xI_ ha.out 7 hb_ rfl rfl rfl), Q_LS, Q_B2, Q_OM, Q_OT, Q_OU, Q_OW, Q_GA, Q_AZ0, Q_B5, Q_OV, Q_X1_, Q_X3_, Q_X4_, Q_X5_, Q_X6_, Q_X8_⟩
     refine Za ?_ ?_
     ·rintro b a w' ⟨tA, tC, tR, tI, nt, uA, uC, uR, uI, nu, hA, hC, hR, hI, nw, b5, m1_, m3_, m4_, m5_, m6_, m8_, ha, Q_LS, Q_B2, Q_OM, Q_OT, Q_OU, Q_OW, Q_GA, Q_AZ0, Q_B5, Q_OV, Q_X1_, Q_X3_, Q_X4_, Q_X5_, Q_X6_, Q_X8_⟩ hb_ hon hoff
      refine ⟨_, rfl, fun K hK => ?_⟩
      replace ha := AZ.mk ha
      have LS := AZ.mk Q_LS
      have B2 := AZ.mk Q_B2
      have OM := AZ.mk Q_OM
      refine Zg (w1 := ?_) (v := ?_) (by rfl) rfl ?_ ?_
      rotate_left 2
      ·go_simp
       constructor
       ·rfl
       ·rfl
      refine hK.out _ _ ⟨tA, tC, tR, tI, nt, uA, uC, uR, uI, nu, hA, hC, hR, hI, nw, w'.heap.size, m1_, m3_, m4_, m5_, m6_, (.pointer (some ⟨w'.heap.size, 0, none⟩)), (xI_ ha.out 8 hb_ rfl rfl rfl), pA LS.out _, ba_ B2.out _, Ye OM.out (pA (Below.refl _ _) _), fun h0_ h1_ => Ye (Q_OT h0_ h1_) (pA (Below.refl _ _) _), fun h0_ h1_ => Ye (Q_OU h0_ h1_) (pA (Below.refl _ _) _), fun h0_ h1_ => ⟨Ye (Q_OW h0_ h1_).1 (pA (Below.refl _ _) _), (Q_OW h0_ h1_).2⟩, fun _ => ⟨pZ LS.out, nL (Zv B2.out)⟩, fun _ _ => heap_alloc_new w' _, xA_ (hoff 9 rfl), xA_ (hoff 9 rfl), Q_X1_, Q_X3_, Q_X4_, Q_X5_, Q_X6_, fun _ => rfl⟩
     refine Za ?_ ?_
     ·rintro b a w' ⟨tA, tC, tR, tI, nt, uA, uC, uR, uI, nu, hA, hC, hR, hI, nw, b5, m1_, m3_, m4_, m5_, m6_, m8_, ha, Q_LS, Q_B2, Q_OM, Q_OT, Q_OU, Q_OW, Q_GA, Q_AZ0, Q_B5, Q_OV, Q_X1_, Q_X3_, Q_X4_, Q_X5_, Q_X6_, Q_X8_⟩ hb_ hon hoff
      refine ⟨_, rfl, fun K hK => ?_⟩
      have e15 := xG_ ha 8 rfl (hon 8 rfl) rfl rfl
      rw [Q_X8_ (hon 8 rfl)] at e15
      have e100 := xG_ ha 6 rfl (hon 6 rfl) rfl rfl
      rw [Q_X6_ (hon 6 rfl)] at e100
      replace ha := AZ.mk ha
      have LS := AZ.mk Q_LS
      have B2 := AZ.mk Q_B2
      have OM := AZ.mk Q_OM
      have OW := AZ.mk (Q_OW (hon 4 rfl) hb_)
      have GA := AZ.mk (Q_GA (hon 8 rfl))
      have AZ0 := AZ.mk (Q_AZ0 (hon 8 rfl) hb_)
      refine store27_step (by rfl) rfl 15 100 rfl (g := b5) (old := cZ) (cs := (cellsI gm gs hA hC hR hI)) (Zt e15) (Zt e100) AZ0.out rfl rfl (cellsI_one _ _ (Reads.own OW.out.1)) ?_
      intro w_ hbx hB hfar
      refine hK.out _ _ ⟨tA, tC, tR, tI, nt, uA, uC, uR, uI, nu, hA, hC, hR, hI, nw, b5, m1_, m3_, m4_, m5_, m6_, m8_, (xJ_ ha.out rfl), (hB _ _ LS.out GA.out.1), ((hfar _ GA.out.2).trans B2.out), (own_far' OM.out AZ0.out hfar), xC_ (Yd b 9), xC_ (Yd b 9), xC_ (Yd b 9), Q_GA, xC_ (Yd b 9), fun _ => hbx, fun _ => own_far' (own_lower OW.out.1 OW.out.2) AZ0.out hfar, Q_X1_, Q_X3_, Q_X4_, Q_X5_, Q_X6_, Q_X8_⟩
     refine Za ?_ ?_
     ·rintro b a w' ⟨tA, tC, tR, tI, nt, uA, uC, uR, uI, nu, hA, hC, hR, hI, nw, b5, m1_, m3_, m4_, m5_, m6_, m8_, ha, Q_LS, Q_B2, Q_OM, Q_OT, Q_OU, Q_OW, Q_GA, Q_AZ0, Q_B5, Q_OV, Q_X1_, Q_X3_, Q_X4_, Q_X5_, Q_X6_, Q_X8_⟩ hb_ hon hoff
      refine ⟨_, rfl, fun K hK => ?_⟩
      have e101 := xG_ ha 7 rfl (hon 7 rfl) rfl rfl
      replace ha := AZ.mk ha
      refine Zg (w1 := w') (v := .int .i64 gk) (by rfl) rfl (by go_simp; (try simp only [i64_w]); try rfl) ?_
      refine hK.out _ _ ⟨tA, tC, tR, tI, nt, uA, uC, uR, uI, nu, hA, hC, hR, hI, nw, b5, m1_, m3_, m4_, m5_, m6_, m8_, (xI_ ha.out 9 hb_ rfl rfl rfl), Q_LS, Q_B2, Q_OM, xC_ (hon 9 rfl), xC_ (hon 9 rfl), xC_ (hon 9 rfl), Q_GA, xC_ (hon 9 rfl), Q_B5, Q_OV, Q_X1_, Q_X3_, Q_X4_, Q_X5_, Q_X6_, Q_X8_⟩
     exact steps_nil
    ·rintro b a w' hall ⟨tA, tC, tR, tI, nt, uA, uC, uR, uI, nu, hA, hC, hR, hI, nw, b5, m1_, m3_, m4_, m5_, m6_, m8_, ha, Q_LS, Q_B2, Q_OM, Q_OT, Q_OU, Q_OW, Q_GA, Q_AZ0, Q_B5, Q_OV, Q_X1_, Q_X3_, Q_X4_, Q_X5_, Q_X6_, Q_X8_⟩
     clear B2 LS OM
     have hb0_ := hall 0 (by kernel_rfl)
     have hb1_ := hall 1 (by kernel_rfl)
     have hb2_ := hall 2 (by kernel_rfl)
     have hb3_ := hall 3 (by kernel_rfl)
     have hb4_ := hall 4 (by kernel_rfl)
     have hb5_ := hall 5 (by kernel_rfl)
     have hb6_ := hall 6 (by kernel_rfl)
     have hb7_ := hall 7 (by kernel_rfl)
     have hb8_ := hall 8 (by kernel_rfl)
     have hb9_ := hall 9 (by kernel_rfl)
     have hb10_ := hall 10 (by kernel_rfl)
     subst ha
     obtain rfl := Q_X1_ hb1_
     obtain rfl := Q_X3_ hb3_
     obtain rfl := Q_X4_ hb4_
     obtain rfl := Q_X5_ hb5_
     obtain rfl := Q_X6_ hb6_
     obtain rfl := Q_X8_ hb8_
     simp only [Zz, hb0_, hb1_, hb2_, hb3_, hb4_, hb5_, hb6_, hb7_, hb8_, hb9_, hb10_, if_true, Act.put, sA, sB, sC]
     have LS := AZ.mk Q_LS
     clear Q_LS
     have B2 := AZ.mk Q_B2
     clear Q_B2
     have OM := AZ.mk Q_OM
     clear Q_OM
     clear Q_OT
     clear Q_OU
     clear Q_OW
     have GA := AZ.mk (Q_GA hb8_)
     clear Q_GA
     clear Q_AZ0
     have B5 := AZ.mk (Q_B5 hb9_)
     clear Q_B5
     have OV := AZ.mk (Q_OV hb9_)
     clear Q_OV
     clear hall hb0_ hb1_ hb2_ hb3_ hb4_ hb5_ hb6_ hb7_ hb8_ hb9_ hb10_
     clear hHeld HT_ HW_
     go_wp2_with (first | ((with_reducible refine Zc (N := 102) rfl ?_); refine load27 rfl 15 rfl (g := b5) rfl B5.out rfl ?_; (try simp only [Act.put, sA, sB, sC])) | ((with_reducible refine Zc (N := 103) rfl ?_); refine load27 rfl 6 rfl (g := b1) rfl (bb_ K1.out LS.out) rfl ?_; (try simp only [Act.put, sA, sB, sC])) | ((with_reducible refine Zc (N := 104) rfl ?_); refine Zi (some 104) rfl rfl Try.func12 (by kernel_rfl) rfl #[.agg (cellsI gm gs hA hC hR hI), .agg (cellsI gm gs wA wC wR wI)] rfl (by (try simp only [mA, mB, mC]); first | done | rfl) ?_; refine (eqS_calls kq gm gs (Reads.own OV.out) (Reads.own (Ye KW.out LS.out)) EQG.out).mono ?_; rintro e W104 ⟨rfl, hb⟩; refine ⟨_, rfl, ?_⟩; replace LS := AZ.mk (pT LS.out hb); replace OM := AZ.mk (Ye OM.out hb); replace B2 := AZ.mk (bb_ B2.out hb); clear hb; (try simp only [Act.put, sA, sB, sC])) | ((with_reducible refine Zc (N := 111) rfl ?_); refine load27 rfl 10 rfl (g := b2) rfl B2.out rfl ?_; (try simp only [Act.put, sA, sB, sC])) | ((with_reducible refine Zc (N := 113) rfl ?_); refine Zi (some 113) rfl rfl Try.func14 (by kernel_rfl) rfl #[.agg (cellsI gm gs gA gC gR gI), .int .i64 1] rfl (by (try simp only [mA, mB, mC]); first | done | rfl) ?_; refine (heldS_calls gm gs OKG.out (Reads.own OM.out)).mono ?_; rintro e W113 ⟨rfl, hb⟩; rw [← HQG2.out]; refine ⟨_, rfl, ?_⟩; replace LS := AZ.mk (pT LS.out hb); replace OM := AZ.mk (Ye OM.out hb); replace B2 := AZ.mk (bb_ B2.out hb); clear hb; (try simp only [Act.put, sA, sB, sC])))
     go_ret
     exact ⟨rfl, pT KH.out LS.out⟩
end Eith
end Go.Proofs.Ytepkfigcnnfoaaa.P
namespace Go.Proofs.Ytepkfigcnnfoaaa.P
open Go.RowKit Go.Proofs.YtepkfigcnnfoaaaW.PrintWords Go.Proofs.YtepkfigcnnfoaaaW.PrintLast Go.Proofs.YtepkfigcnnfoaaaW.PrintMore Go.Proofs.Ytepkfigcnnfoaaa.Deep
structure CH (w : World) (A2 : Option Addr) (c2 : Nat) (l2 : List Bool) (A3 : Option Addr) (c3 : Nat) (l3 : List (List S47)) (A4 : Option Addr) (c4 : Nat) (l4 : List (List (List Int))) (A5 : Option Addr) (c5 : Nat) (l5 : List (List Int)) : Prop where
 r2 : Kd.C Kd.bool w A2 l2.length l2
 d2 : l2.length ≤ c2
 r3 : Kd.C (Kd.slice 47 k47) w A3 l3.length l3
 d3 : l3.length ≤ c3
 r4 : Kd.C (Kd.slice 49 (Kd.slice 2 (Kd.int .i64))) w A4 l4.length l4
 d4 : l4.length ≤ c4
 r5 : Kd.C (Kd.slice 2 (Kd.int .i64)) w A5 l5.length l5
 d5 : l5.length ≤ c5
theorem CH.below {w w' : World} {A2 : Option Addr} {c2 : Nat} {l2 : List Bool} {A3 : Option Addr} {c3 : Nat} {l3 : List (List S47)} {A4 : Option Addr} {c4 : Nat} {l4 : List (List (List Int))} {A5 : Option Addr} {c5 : Nat} {l5 : List (List Int)} (h : CH w A2 c2 l2 A3 c3 l3 A4 c4 l4 A5 c5 l5) (hb : Below w.heap.size w w') : CH w' A2 c2 l2 A3 c3 l3 A4 c4 l4 A5 c5 l5 := ⟨Kd.C_below h.r2 hb, h.d2, Kd.C_below h.r3 hb, h.d3, Kd.C_below h.r4 hb, h.d4, Kd.C_below h.r5 hb, h.d5⟩
def paired.T1 : Bool × List (List Nat × List Nat) := (true, [([], []), ([0], [0]), ([1], [1]), ([], []), ([3], [3]), ([], []), ([], []), ([5, 2, 2, 0, 1, 2, 5, 6], [2, 5]), ([6, 4, 7, 0, 1, 2, 3, 4, 5, 6, 7], [4, 6])])
def paired.B1 : List Nat := [0, 1, 3, 0, 8, 0, 0, 103, 255]
theorem paired.tab1 : rtab .any (opsOf Try.f81 1) = paired.T1 := by kernel_rfl
theorem paired.bits1 : waitsOk paired.T1.2 paired.B1 = true := by kernel_rfl
def paired.T4 : Bool × List (List Nat × List Nat) := (true, [([], []), ([0], [0]), ([1], [1]), ([], []), ([2, 3], [2, 3]), ([4], [4]), ([5, 2], [5]), ([6], [6]), ([7, 6], [6, 7]), ([6], [6]), ([8, 9, 6], [6, 8, 9]), ([10, 6], [6, 10]), ([6, 11], [6, 11]), ([12, 6], [12])])
def paired.B4 : List Nat := [0, 1, 3, 0, 15, 31, 63, 127, 255, 127, 1023, 2047, 4095, 8191]
theorem paired.tab4 : rtab .any (opsOf Try.f81 4) = paired.T4 := by kernel_rfl
theorem paired.bits4 : waitsOk paired.T4.2 paired.B4 = true := by kernel_rfl
def paired.T6 : Bool × List (List Nat × List Nat) := (true, [([], []), ([0], [0]), ([1], [1]), ([], []), ([2, 3], [2, 3]), ([], []), ([5], [5]), ([], []), ([6, 7], [6, 7]), ([], []), ([9], [9]), ([], []), ([10, 11], [10, 11]), ([], []), ([13], [13]), ([12, 14], [12, 14]), ([], []), ([], []), ([], []), ([], []), ([4, 8, 15, 16, 17, 18, 19, 2], [4, 8, 15, 16, 17, 18, 19]), ([20, 20, 0, 1, 2, 3, 4, 5, 6, 7, 8, 9, 10, 11, 12, 13, 14, 15, 16, 17, 18, 19, 20], [20]), ([21, 0, 1, 2, 3, 4, 5, 6, 7, 8, 9, 10, 11, 12, 13, 14, 15, 16, 17, 18, 19, 20, 21], [])])
def paired.B6 : List Nat := [0, 1, 3, 0, 15, 0, 32, 0, 224, 0, 512, 0, 3584, 0, 8192, 32256, 0, 0, 0, 0, 1048575, 2097151, 4194303]
theorem paired.tab6 : rtab .any (opsOf Try.f81 6) = paired.T6 := by kernel_rfl
theorem paired.bits6 : waitsOk paired.T6.2 paired.B6 = true := by kernel_rfl
section
variable (kv : Nat) (m st : Int) (A2 : Option Addr) (c2 : Nat) (l2 : List Bool) (A3 : Option Addr) (c3 : Nat) (l3 : List (List S47)) (A4 : Option Addr) (c4 : Nat) (l4 : List (List (List Int))) (A5 : Option Addr) (c5 : Nat) (l5 : List (List Int)) (m' st' : Int) (B2 : Option Addr) (d2 : Nat) (p2 : List Bool) (B3 : Option Addr) (d3 : Nat) (p3 : List (List S47)) (B4 : Option Addr) (d4 : Nat) (p4 : List (List (List Int))) (B5 : Option Addr) (d5 : Nat) (p5 : List (List Int)) (ff : FuncId) (w : World)
theorem paired_all (hC : CH w A2 c2 l2 A3 c3 l3 A4 c4 l4 A5 c5 l5) (hD : CH w B2 d2 p2 B3 d3 p3 B4 d4 p4 B5 d5 p5) (Post : Ending → World → Prop) (hcase : (impl_ValidChecker.f kv m st l2 l3 l4 l5 = some false ∧ (∀ w', Below w.heap.size w w' → Post (.returned (.tuple #[.agg cZ, .int .i64 1])) w')) ∨ (impl_ValidChecker.f kv m st l2 l3 l4 l5 = some true ∧ ((impl_ValidChecker.f kv m' st' p2 p3 p4 p5 = some false ∧ (∀ w', Below w.heap.size w w' → Post (.returned (.tuple #[.agg cZ, .int .i64 1])) w')) ∨ (impl_ValidChecker.f kv m' st' p2 p3 p4 p5 = some true ∧ ((40 < (wrap64 ((l2.length : Int) * (p2.length : Int))) ∧ (∀ w', Below w.heap.size w w' → Post (.returned (.tuple #[.agg cZ, .int .i64 3])) w')) ∨ (¬ 40 < (wrap64 ((l2.length : Int) * (p2.length : Int))) ∧ ((80 < (wrap64 (m * m')) ∧ (∀ w', Below w.heap.size w w' → Post (.returned (.tuple #[.agg cZ, .int .i64 3])) w')) ∨ (¬ 80 < (wrap64 (m * m')) ∧ ∃ (n k : Nat) (s0 : Int) (acc : Nat → Bool) (call : Nat → Nat → S47) (back : Nat → Nat → Nat → Int) (inner : Nat → Nat → Int), (n ≤ 2000 ∧ k ≤ 7000 ∧ (wrap64 ((l2.length : Int) * (p2.length : Int))) = (n : Int) ∧ (wrap64 (m * m')) = (k : Int) ∧ (wrap64 (wrap64 (st * (p2.length : Int)) + st')) = s0) ∧ (∀ (s : Nat) (W : World) (gF gC gN gD : Nat), s < n → CH W A2 c2 l2 A3 c3 l3 A4 c4 l4 A5 c5 l5 → CH W B2 d2 p2 B3 d3 p3 B4 d4 p4 B5 d5 p5 → W.heap[gF]? = some (.cells #[.func (.func ff) #[] #[]] 81 (0, 0)) → W.heap[gC]? = some (.cells #[.int .i64 m, .int .i64 st, .slice A2 l2.length c2, .slice A3 l3.length c3, .slice A4 l4.length c4, .slice A5 l5.length c5] 27 (0, 0)) → W.heap[gN]? = some (.cells #[.int .i64 (p2.length : Int)] 2 (0, 0)) → W.heap[gD]? = some (.cells #[.int .i64 m', .int .i64 st', .slice B2 p2.length d2, .slice B3 p3.length d3, .slice B4 p4.length d4, .slice B5 p5.length d5] 27 (0, 0)) → Calls Try.prog 110 #[.int .i64 (s : Int), .pointer (some ⟨gF, 0, none⟩), .pointer (some ⟨gC, 0, none⟩), .pointer (some ⟨gN, 0, none⟩), .pointer (some ⟨gD, 0, none⟩)] W fun e W' => e = .returned (.bool (acc s)) ∧ Below W.heap.size W W') ∧ (∀ (s q : Nat) (W : World) (gC gN gD gM : Nat), s < n → q < 2 → CH W A2 c2 l2 A3 c3 l3 A4 c4 l4 A5 c5 l5 → CH W B2 d2 p2 B3 d3 p3 B4 d4 p4 B5 d5 p5 → W.heap[gC]? = some (.cells #[.int .i64 m, .int .i64 st, .slice A2 l2.length c2, .slice A3 l3.length c3, .slice A4 l4.length c4, .slice A5 l5.length c5] 27 (0, 0)) → W.heap[gN]? = some (.cells #[.int .i64 (p2.length : Int)] 2 (0, 0)) → W.heap[gD]? = some (.cells #[.int .i64 m', .int .i64 st', .slice B2 p2.length d2, .slice B3 p3.length d3, .slice B4 p4.length d4, .slice B5 p5.length d5] 27 (0, 0)) → W.heap[gM]? = some (.cells #[.int .i64 m'] 2 (0, 0)) → Calls Try.prog 111 #[.int .i64 (s : Int), .int .i64 (q : Int), .pointer (some ⟨gC, 0, none⟩), .pointer (some ⟨gN, 0, none⟩), .pointer (some ⟨gD, 0, none⟩), .pointer (some ⟨gM, 0, none⟩)] W fun e W' => e = .returned (.agg #[.int .i64 (call s q).f0, .int .i64 (call s q).f1]) ∧ Below W.heap.size W W') ∧ (∀ (s q x : Nat) (W : World) (gM gC gN gD : Nat), s < n → q < 2 → x < k + 1 → CH W A2 c2 l2 A3 c3 l3 A4 c4 l4 A5 c5 l5 → CH W B2 d2 p2 B3 d3 p3 B4 d4 p4 B5 d5 p5 → W.heap[gM]? = some (.cells #[.int .i64 m'] 2 (0, 0)) → W.heap[gC]? = some (.cells #[.int .i64 m, .int .i64 st, .slice A2 l2.length c2, .slice A3 l3.length c3, .slice A4 l4.length c4, .slice A5 l5.length c5] 27 (0, 0)) → W.heap[gN]? = some (.cells #[.int .i64 (p2.length : Int)] 2 (0, 0)) → W.heap[gD]? = some (.cells #[.int .i64 m', .int .i64 st', .slice B2 p2.length d2, .slice B3 p3.length d3, .slice B4 p4.length d4, .slice B5 p5.length d5] 27 (0, 0)) → Calls Try.prog 112 #[.int .i64 (s : Int), .int .i64 (q : Int), .int .i64 (x : Int), .pointer (some ⟨gM, 0, none⟩), .pointer (some ⟨gC, 0, none⟩), .pointer (some ⟨gN, 0, none⟩), .pointer (some ⟨gD, 0, none⟩)] W fun e W' => e = .returned (.int .i64 (back s q x)) ∧ Below W.heap.size W W') ∧ (∀ (s q : Nat) (W : World) (gC gN gD : Nat), s < n → q < 2 → CH W A2 c2 l2 A3 c3 l3 A4 c4 l4 A5 c5 l5 → CH W B2 d2 p2 B3 d3 p3 B4 d4 p4 B5 d5 p5 → W.heap[gC]? = some (.cells #[.int .i64 m, .int .i64 st, .slice A2 l2.length c2, .slice A3 l3.length c3, .slice A4 l4.length c4, .slice A5 l5.length c5] 27 (0, 0)) → W.heap[gN]? = some (.cells #[.int .i64 (p2.length : Int)] 2 (0, 0)) → W.heap[gD]? = some (.cells #[.int .i64 m', .int .i64 st', .slice B2 p2.length d2, .slice B3 p3.length d3, .slice B4 p4.length d4, .slice B5 p5.length d5] 27 (0, 0)) → Calls Try.prog 113 #[.int .i64 (s : Int), .int .i64 (q : Int), .pointer (some ⟨gC, 0, none⟩), .pointer (some ⟨gN, 0, none⟩), .pointer (some ⟨gD, 0, none⟩)] W fun e W' => e = .returned (.int .i64 (inner s q)) ∧ Below W.heap.size W W') ∧ ∀ w' vA vC vR vI, OwnC w' w.heap.size vA vC vR vI (LAs acc n) (LCs call n) (LRs k back n) (LIs inner n) → Below w.heap.size w w' → Post (.returned (.tuple #[.agg (cellsI (k : Int) s0 vA vC vR vI), .int .i64 0])) w')))))))) :
  Calls Try.prog 81 #[.agg #[.int .i64 m, .int .i64 st, .slice A2 l2.length c2, .slice A3 l3.length c3, .slice A4 l4.length c4, .slice A5 l5.length c5], .agg #[.int .i64 m', .int .i64 st', .slice B2 p2.length d2, .slice B3 p3.length d3, .slice B4 p4.length d4, .slice B5 p5.length d5], .func (.func ff) #[] #[]] w Post := by
 have hu27 := Try.underlying27
 have HB := AZ.mk (Below.refl w.heap.size w)
 have HC := AZ.mk hC
 have HD := AZ.mk hD
 have HX := AZ.mk hcase
 clear hC hD hcase
 go_enter Try.func81, Try.ntmps81
 go_wp2_with (first | ((with_reducible refine Zc (N := 3) rfl ?_); refine Zh rfl (N := 3) rfl (cs := #[.int .i64 m, .int .i64 st, .slice A2 l2.length c2, .slice A3 l3.length c3, .slice A4 l4.length c4, .slice A5 l5.length c5]) (t := 27) (by go_simp; try rfl) ?_; intro gC hg WgC hbx hb; have n9_ := AZ.mk hbx; have GC := AZ.mk (show w.heap.size ≤ gC by rw [hg]; exact pZ HB.out); clear hbx hg; replace HB := AZ.mk (pT HB.out hb); clear hb; have BC := n9_; clear n9_) | ((with_reducible refine Zc (N := 4) rfl ?_); refine Zh rfl (N := 4) rfl (cs := #[.int .i64 m', .int .i64 st', .slice B2 p2.length d2, .slice B3 p3.length d3, .slice B4 p4.length d4, .slice B5 p5.length d5]) (t := 27) (by go_simp; try rfl) ?_; intro gD hg WgD hbx hb; have n9_ := AZ.mk hbx; have GD := AZ.mk (show w.heap.size ≤ gD by rw [hg]; exact pZ HB.out); clear hbx hg; replace HB := AZ.mk (pT HB.out hb); replace BC := AZ.mk (bb_ BC.out hb); clear hb; have BD := n9_; clear n9_) | ((with_reducible refine Zc (N := 5) rfl ?_); refine Zh rfl (N := 5) rfl (cs := #[.func (.func ff) #[] #[]]) (t := 81) (by go_simp; try rfl) ?_; intro gF hg WgF hbx hb; have n9_ := AZ.mk hbx; have GF := AZ.mk (show w.heap.size ≤ gF by rw [hg]; exact pZ HB.out); clear hbx hg; replace HB := AZ.mk (pT HB.out hb); replace BC := AZ.mk (bb_ BC.out hb); replace BD := AZ.mk (bb_ BD.out hb); clear hb; have BF := n9_; clear n9_) | ((with_reducible refine Zc (N := 6) rfl ?_); refine Zh rfl (N := 6) rfl (cs := cZ) (t := 27) (by go_simp; try rfl) ?_; intro gZ hg WgZ hbx hb; have n9_ := AZ.mk hbx; have GZ := AZ.mk (show w.heap.size ≤ gZ by rw [hg]; exact pZ HB.out); have NC := AZ.mk (show gC ≠ gZ by rw [hg]; exact nL (Zv BC.out)); have ND := AZ.mk (show gD ≠ gZ by rw [hg]; exact nL (Zv BD.out)); have NF := AZ.mk (show gF ≠ gZ by rw [hg]; exact nL (Zv BF.out)); clear hbx hg; replace HB := AZ.mk (pT HB.out hb); replace BC := AZ.mk (bb_ BC.out hb); replace BD := AZ.mk (bb_ BD.out hb); replace BF := AZ.mk (bb_ BF.out hb); clear hb; have BZ := n9_; clear n9_))
 refine start_ (n := 9) (S := fun w' => True) (ds := []) (bz 9 0) (by kernel_rfl) rfl rfl trivial (fun hHeld => ?_)
 refine Yh paired.tab1 paired.bits1 (fun HT_ HW_ => ?_)
 have n0_ := AZ.mk (pD HB.out)
 have n1_ := AZ.mk (bd_ BC.out)
 have n2_ := AZ.mk (bd_ BD.out)
 have n3_ := AZ.mk (bd_ BF.out)
 have n4_ := AZ.mk (bd_ BZ.out)
 clear HB BC BD BF BZ
 have HB := n0_
 have BC := n1_
 have BD := n2_
 have BF := n3_
 have BZ := n4_
 clear n0_ n1_ n2_ n3_ n4_
 generalize World.drew _ = wD at HB BC BD BF BZ hHeld ⊢
 have LL := AZ.mk (show 0 < wD.heap.size ∧ 0 < wD.heap.size from ⟨by have := Zv BC.out; omega, by have := Zv BC.out; omega⟩)
 have NX := AZ.mk (Or.inr ⟨rfl, rfl⟩ : (0 : Nat) ≠ 0 ∨ (0 : Nat) = 0 ∧ (0 : Nat) = 0)
 refine Ya (i := 0) (N := some 10) (v := ?_) (a' := ?_) (bz 9 1) rfl rfl (Zm HT_.out (by kernel_rfl)) (fun _ _ _ h => h) (Or.inl ⟨by rfl, ?_⟩) ?_ ?_
 rotate_left
 ·intro w'
  go_simp
  with_reducible rfl
 rotate_left
 ·simp only [Act.put, sA, sB, sC, i64_w, i32_w]
  rfl
 refine Ya (i := 3) (N := some 13) (v := ?_) (a' := ?_) (bz 9 9) rfl rfl (Zm HT_.out (by kernel_rfl)) (fun _ _ _ h => h) (Or.inl ⟨by rfl, ?_⟩) ?_ ?_
 rotate_left
 ·intro w'
  go_simp
  with_reducible rfl
 rotate_left
 ·simp only [Act.put, sA, sB, sC, i64_w, i32_w]
  rfl
 refine inv_at [1, 2, 4, 5, 6, 7, 8] (fun a0_ b a w' => ∃ (gN : Nat) (gM : Nat) (m5_ : Value) (m6_ : Value), a = Zz a0_ b [(1, 11, .slice B2 p2.length d2), (2, 12, .int .i64 (p2.length : Int)), (4, 14, .int .i64 m'), (5, 8, m5_), (6, 9, m6_)] ∧ (Below w.heap.size w w') ∧ (w'.heap[gC]? = some (.cells #[.int .i64 m, .int .i64 st, .slice A2 l2.length c2, .slice A3 l3.length c3, .slice A4 l4.length c4, .slice A5 l5.length c5] 27 (0, 0))) ∧ (w'.heap[gD]? = some (.cells #[.int .i64 m', .int .i64 st', .slice B2 p2.length d2, .slice B3 p3.length d3, .slice B4 p4.length d4, .slice B5 p5.length d5] 27 (0, 0))) ∧ (w'.heap[gF]? = some (.cells #[.func (.func ff) #[] #[]] 81 (0, 0))) ∧ (w'.heap[gZ]? = some (.cells cZ 27 (0, 0))) ∧ (gN < w'.heap.size ∧ gM < w'.heap.size) ∧ (gN ≠ gM ∨ gN = 0 ∧ gM = 0) ∧ (b 5 = true → gC < gN ∧ gD < gN ∧ gF < gN ∧ gZ < gN) ∧ (b 6 = true → gC < gM ∧ gD < gM ∧ gF < gM ∧ gZ < gM) ∧ (b 5 = true → b 7 = false → w'.heap[gN]? = some (.cells #[.int .i64 0] 2 (0, 0))) ∧ (b 7 = true → w'.heap[gN]? = some (.cells #[.int .i64 (p2.length : Int)] 2 (0, 0))) ∧ (b 6 = true → b 8 = false → w'.heap[gM]? = some (.cells #[.int .i64 0] 2 (0, 0))) ∧ (b 8 = true → w'.heap[gM]? = some (.cells #[.int .i64 m'] 2 (0, 0))) ∧ (b 5 = true → (m5_ : Value) = .pointer (some ⟨gN, 0, none⟩)) ∧ (b 6 = true → (m6_ : Value) = .pointer (some ⟨gM, 0, none⟩))) HT_.out HW_.out (by kernel_rfl) (by kernel_rfl) ?_ ?_ ?_
 ·exact ⟨0, 0, .bool false, .bool false, by simp only [Zz, Bool.false_eq_true, if_false], HB.out, BC.out, BD.out, BF.out, BZ.out, LL.out, NX.out, fun h_ => absurd h_ (by decide), fun h_ => absurd h_ (by decide), fun h_ => absurd h_ (by decide), fun h_ => absurd h_ (by decide), fun h_ => absurd h_ (by decide), fun h_ => absurd h_ (by decide), fun h_ => absurd h_ (by decide), fun h_ => absurd h_ (by decide)⟩
 ·skip
  clear BC BD BF BZ HB LL NX
  refine Za ?_ ?_
  ·rintro b a w' ⟨gN, gM, m5_, m6_, ha, Q_HB, Q_BC, Q_BD, Q_BF, Q_BZ, Q_LL, Q_NX, Q_GN, Q_GM, Q_BN0, Q_BN, Q_BM0, Q_BM, Q_X5_, Q_X6_⟩ hb_ hon hoff
   refine ⟨_, rfl, fun K hK => ?_⟩
   have e10 : a.tmps[10]? = some (.pointer (some ⟨gD, 2, none⟩)) := xH_ ha rfl rfl
   replace ha := AZ.mk ha
   have BD := AZ.mk Q_BD
   have hc_ : w'.cell? ⟨gD, 2, none⟩ = some (.slice B2 p2.length d2) := (bc BD.out 2).trans rfl
   refine Zg (w1 := w') (v := .slice B2 p2.length d2) (by rfl) rfl (by go_simp; (try simp only [i64_w]); try rfl) ?_
   refine hK.out _ _ ⟨gN, gM, m5_, m6_, (xI_ ha.out 0 hb_ rfl rfl rfl), Q_HB, Q_BC, Q_BD, Q_BF, Q_BZ, Q_LL, Q_NX, Q_GN, Q_GM, Q_BN0, xA_ (hoff 7 rfl), Q_BM0, xA_ (hoff 8 rfl), Q_X5_, Q_X6_⟩
  refine Za ?_ ?_
  ·rintro b a w' ⟨gN, gM, m5_, m6_, ha, Q_HB, Q_BC, Q_BD, Q_BF, Q_BZ, Q_LL, Q_NX, Q_GN, Q_GM, Q_BN0, Q_BN, Q_BM0, Q_BM, Q_X5_, Q_X6_⟩ hb_ hon hoff
   refine ⟨_, rfl, fun K hK => ?_⟩
   have e11 := xG_ ha 0 rfl (hon 1 rfl) rfl rfl
   replace ha := AZ.mk ha
   have HB := AZ.mk Q_HB
   have BC := AZ.mk Q_BC
   have BD := AZ.mk Q_BD
   have BF := AZ.mk Q_BF
   have BZ := AZ.mk Q_BZ
   have LL := AZ.mk Q_LL
   refine goes_ Try.func97 (by kernel_rfl) rfl #[.slice B2 p2.length d2] (by rfl) rfl rfl (by simp only [mA, mB, mC, Zt e11]) ?_
   refine (impl_size_bool.calls _ _ p2 _ _ (Kd.C_below HD.out.r2 HB.out) HD.out.d2 rfl).mono ?_
   rintro e w_ ⟨rfl, hd⟩
   refine ⟨_, rfl, ?_⟩
   have hb := hd.below
   refine hK.out _ _ ⟨gN, gM, m5_, m6_, (xI_ ha.out 1 hb_ rfl rfl rfl), pT HB.out hb, bb_ BC.out hb, bb_ BD.out hb, bb_ BF.out hb, bb_ BZ.out hb, ⟨nM LL.out.1 hb.size, nM LL.out.2 hb.size⟩, Q_NX, Q_GN, Q_GM, fun h0_ h1_ => bb_ (Q_BN0 h0_ h1_) hb, xA_ (hoff 7 rfl), fun h0_ h1_ => bb_ (Q_BM0 h0_ h1_) hb, xA_ (hoff 8 rfl), Q_X5_, Q_X6_⟩
  refine Za ?_ ?_
  ·rintro b a w' ⟨gN, gM, m5_, m6_, ha, Q_HB, Q_BC, Q_BD, Q_BF, Q_BZ, Q_LL, Q_NX, Q_GN, Q_GM, Q_BN0, Q_BN, Q_BM0, Q_BM, Q_X5_, Q_X6_⟩ hb_ hon hoff
   refine ⟨_, rfl, fun K hK => ?_⟩
   have e13 : a.tmps[13]? = some (.pointer (some ⟨gD, 0, none⟩)) := xH_ ha rfl rfl
   replace ha := AZ.mk ha
   have BD := AZ.mk Q_BD
   have hc_ : w'.cell? ⟨gD, 0, none⟩ = some (.int .i64 m') := (bc BD.out 0).trans rfl
   refine Zg (w1 := w') (v := .int .i64 m') (by rfl) rfl (by go_simp; (try simp only [i64_w]); try rfl) ?_
   refine hK.out _ _ ⟨gN, gM, m5_, m6_, (xI_ ha.out 2 hb_ rfl rfl rfl), Q_HB, Q_BC, Q_BD, Q_BF, Q_BZ, Q_LL, Q_NX, Q_GN, Q_GM, Q_BN0, Q_BN, Q_BM0, xA_ (hoff 8 rfl), Q_X5_, Q_X6_⟩
  refine Za ?_ ?_
  ·rintro b a w' ⟨gN, gM, m5_, m6_, ha, Q_HB, Q_BC, Q_BD, Q_BF, Q_BZ, Q_LL, Q_NX, Q_GN, Q_GM, Q_BN0, Q_BN, Q_BM0, Q_BM, Q_X5_, Q_X6_⟩ hb_ hon hoff
   refine ⟨_, rfl, fun K hK => ?_⟩
   replace ha := AZ.mk ha
   have HB := AZ.mk Q_HB
   have BC := AZ.mk Q_BC
   have BD := AZ.mk Q_BD
   have BF := AZ.mk Q_BF
   have BZ := AZ.mk Q_BZ
   have LL := AZ.mk Q_LL
   refine Zg (w1 := ?_) (v := ?_) (by rfl) rfl ?_ ?_
   rotate_left 2
   ·go_simp
    constructor
    ·rfl
    ·rfl
   refine hK.out _ _ ⟨w'.heap.size, gM, (.pointer (some ⟨w'.heap.size, 0, none⟩)), m6_, (xI_ ha.out 3 hb_ rfl rfl rfl), pA HB.out _, ba_ BC.out _, ba_ BD.out _, ba_ BF.out _, ba_ BZ.out _, ⟨by rw [World.size_alloc]; have := LL.out; omega, by rw [World.size_alloc]; have := LL.out; omega⟩, Or.inl (by have := LL.out; omega), fun _ => ⟨Zv BC.out, Zv BD.out, Zv BF.out, Zv BZ.out⟩, Q_GM, fun _ _ => heap_alloc_new w' _, xA_ (hoff 7 rfl), fun h0_ h1_ => ba_ (Q_BM0 h0_ h1_) _, xA_ (hoff 8 rfl), fun _ => rfl, Q_X6_⟩
  refine Za ?_ ?_
  ·rintro b a w' ⟨gN, gM, m5_, m6_, ha, Q_HB, Q_BC, Q_BD, Q_BF, Q_BZ, Q_LL, Q_NX, Q_GN, Q_GM, Q_BN0, Q_BN, Q_BM0, Q_BM, Q_X5_, Q_X6_⟩ hb_ hon hoff
   refine ⟨_, rfl, fun K hK => ?_⟩
   replace ha := AZ.mk ha
   have HB := AZ.mk Q_HB
   have BC := AZ.mk Q_BC
   have BD := AZ.mk Q_BD
   have BF := AZ.mk Q_BF
   have BZ := AZ.mk Q_BZ
   have LL := AZ.mk Q_LL
   refine Zg (w1 := ?_) (v := ?_) (by rfl) rfl ?_ ?_
   rotate_left 2
   ·go_simp
    constructor
    ·rfl
    ·rfl
   refine hK.out _ _ ⟨gN, w'.heap.size, m5_, (.pointer (some ⟨w'.heap.size, 0, none⟩)), (xI_ ha.out 4 hb_ rfl rfl rfl), pA HB.out _, ba_ BC.out _, ba_ BD.out _, ba_ BF.out _, ba_ BZ.out _, ⟨by rw [World.size_alloc]; have := LL.out; omega, by rw [World.size_alloc]; have := LL.out; omega⟩, Or.inl (by have := LL.out; omega), Q_GN, fun _ => ⟨Zv BC.out, Zv BD.out, Zv BF.out, Zv BZ.out⟩, fun h0_ h1_ => ba_ (Q_BN0 h0_ h1_) _, xA_ (hoff 7 rfl), fun _ _ => heap_alloc_new w' _, xA_ (hoff 8 rfl), Q_X5_, fun _ => rfl⟩
  refine Za ?_ ?_
  ·rintro b a w' ⟨gN, gM, m5_, m6_, ha, Q_HB, Q_BC, Q_BD, Q_BF, Q_BZ, Q_LL, Q_NX, Q_GN, Q_GM, Q_BN0, Q_BN, Q_BM0, Q_BM, Q_X5_, Q_X6_⟩ hb_ hon hoff
   refine ⟨_, rfl, fun K hK => ?_⟩
   have e8 := xG_ ha 3 rfl (hon 5 rfl) rfl rfl
   rw [Q_X5_ (hon 5 rfl)] at e8
   have e12 := xG_ ha 1 rfl (hon 2 rfl) rfl rfl
   replace ha := AZ.mk ha
   have HB := AZ.mk Q_HB
   have BC := AZ.mk Q_BC
   have BD := AZ.mk Q_BD
   have BF := AZ.mk Q_BF
   have BZ := AZ.mk Q_BZ
   have LL := AZ.mk Q_LL
   have NX := AZ.mk Q_NX
   have GN := AZ.mk (Q_GN (hon 5 rfl))
   have BN0 := AZ.mk (Q_BN0 (hon 5 rfl) hb_)
   have BM0 := AZ.mk (Q_BM0 (hon 6 rfl) (hoff 8 rfl))
   have hc_ : w'.cell? ⟨gN, 0, none⟩ = some (.int .i64 0) := (bc BN0.out 0).trans rfl
   have hf_ := bf BN0.out 0
   refine skip_ (w1 := ?_) (by rfl) rfl ?_ ?_
   rotate_left
   ·go_simp
    rfl
   refine hK.out _ _ ⟨gN, gM, m5_, m6_, (xJ_ ha.out rfl), pS HB.out (show w.heap.size ≤ gN by have := GN.out.1; have := GC.out; omega), (Below.heap_setCell _ _ _ _ (nL GN.out.1)).trans BC.out, (Below.heap_setCell _ _ _ _ (nL GN.out.2.1)).trans BD.out, (Below.heap_setCell _ _ _ _ (nL GN.out.2.2.1)).trans BF.out, (Below.heap_setCell _ _ _ _ (nL GN.out.2.2.2)).trans BZ.out, ⟨by rw [World.size_setCell]; exact LL.out.1, by rw [World.size_setCell]; exact LL.out.2⟩, Q_NX, Q_GN, Q_GM, xC_ (Yd b 7), fun _ => blk_put BN0.out 0 _ rfl, fun _ _ => (Below.heap_setCell _ _ _ _ (show gM ≠ gN by have := NX.out; have := GN.out.1; omega)).trans BM0.out, xA_ (hoff 8 rfl), Q_X5_, Q_X6_⟩
  refine Za ?_ ?_
  ·rintro b a w' ⟨gN, gM, m5_, m6_, ha, Q_HB, Q_BC, Q_BD, Q_BF, Q_BZ, Q_LL, Q_NX, Q_GN, Q_GM, Q_BN0, Q_BN, Q_BM0, Q_BM, Q_X5_, Q_X6_⟩ hb_ hon hoff
   refine ⟨_, rfl, fun K hK => ?_⟩
   have e9 := xG_ ha 4 rfl (hon 6 rfl) rfl rfl
   rw [Q_X6_ (hon 6 rfl)] at e9
   have e14 := xG_ ha 2 rfl (hon 4 rfl) rfl rfl
   replace ha := AZ.mk ha
   have HB := AZ.mk Q_HB
   have BC := AZ.mk Q_BC
   have BD := AZ.mk Q_BD
   have BF := AZ.mk Q_BF
   have BZ := AZ.mk Q_BZ
   have LL := AZ.mk Q_LL
   have NX := AZ.mk Q_NX
   have GM := AZ.mk (Q_GM (hon 6 rfl))
   have BN := AZ.mk (Q_BN (hon 7 rfl))
   have BM0 := AZ.mk (Q_BM0 (hon 6 rfl) hb_)
   have hc_ : w'.cell? ⟨gM, 0, none⟩ = some (.int .i64 0) := (bc BM0.out 0).trans rfl
   have hf_ := bf BM0.out 0
   refine skip_ (w1 := ?_) (by rfl) rfl ?_ ?_
   rotate_left
   ·go_simp
    rfl
   refine hK.out _ _ ⟨gN, gM, m5_, m6_, (xJ_ ha.out rfl), pS HB.out (show w.heap.size ≤ gM by have := GM.out.1; have := GC.out; omega), (Below.heap_setCell _ _ _ _ (nL GM.out.1)).trans BC.out, (Below.heap_setCell _ _ _ _ (nL GM.out.2.1)).trans BD.out, (Below.heap_setCell _ _ _ _ (nL GM.out.2.2.1)).trans BF.out, (Below.heap_setCell _ _ _ _ (nL GM.out.2.2.2)).trans BZ.out, ⟨by rw [World.size_setCell]; exact LL.out.1, by rw [World.size_setCell]; exact LL.out.2⟩, Q_NX, Q_GN, Q_GM, xC_ (hon 7 rfl), fun _ => (Below.heap_setCell _ _ _ _ (show gN ≠ gM by have := NX.out; have := GM.out.1; omega)).trans BN.out, xC_ (Yd b 8), fun _ => blk_put BM0.out 0 _ rfl, Q_X5_, Q_X6_⟩
  exact steps_nil
 ·rintro b a w' hall ⟨gN, gM, m5_, m6_, ha, Q_HB, Q_BC, Q_BD, Q_BF, Q_BZ, Q_LL, Q_NX, Q_GN, Q_GM, Q_BN0, Q_BN, Q_BM0, Q_BM, Q_X5_, Q_X6_⟩
  clear BC BD BF BZ HB LL NX
  have hb1_ := hall 1 (by kernel_rfl)
  have hb2_ := hall 2 (by kernel_rfl)
  have hb4_ := hall 4 (by kernel_rfl)
  have hb5_ := hall 5 (by kernel_rfl)
  have hb6_ := hall 6 (by kernel_rfl)
  have hb7_ := hall 7 (by kernel_rfl)
  have hb8_ := hall 8 (by kernel_rfl)
  subst ha
  obtain rfl := Q_X5_ hb5_
  obtain rfl := Q_X6_ hb6_
  simp only [Zz, hb1_, hb2_, hb4_, hb5_, hb6_, hb7_, hb8_, if_true, Act.put, sA, sB, sC]
  have HB := AZ.mk Q_HB
  clear Q_HB
  have BC := AZ.mk Q_BC
  clear Q_BC
  have BD := AZ.mk Q_BD
  clear Q_BD
  have BF := AZ.mk Q_BF
  clear Q_BF
  have BZ := AZ.mk Q_BZ
  clear Q_BZ
  have LL := AZ.mk Q_LL
  clear Q_LL
  have NX := AZ.mk Q_NX
  clear Q_NX
  have GN := AZ.mk (Q_GN hb5_)
  clear Q_GN
  have GM := AZ.mk (Q_GM hb6_)
  clear Q_GM
  clear Q_BN0
  have BN := AZ.mk (Q_BN hb7_)
  clear Q_BN
  clear Q_BM0
  have BM := AZ.mk (Q_BM hb8_)
  clear Q_BM
  clear hall hb1_ hb2_ hb4_ hb5_ hb6_ hb7_ hb8_
  have NN := AZ.mk (nG GN.out.2.2.2)
  have NM := AZ.mk (nG GM.out.2.2.2)
  clear LL NX GN GM
  rcases HX.out with ⟨hv, hp⟩ | ⟨hv, hx⟩
  ·as_aux_lemma =>
   have HV := AZ.mk hv
   have HP := AZ.mk hp
   clear HX hv hp
   go_wp2_with (first | ((with_reducible refine Zc (N := 16) rfl ?_); refine load27 rfl 3 rfl (g := gC) rfl BC.out rfl ?_) | ((with_reducible refine Zc (N := 17) rfl ?_); refine Zi (some 17) rfl rfl Try.func76 (by kernel_rfl) rfl #[.agg #[.int .i64 m, .int .i64 st, .slice A2 l2.length c2, .slice A3 l3.length c3, .slice A4 l4.length c4, .slice A5 l5.length c5]] rfl (by (try simp only [mA, mB, mC]); first | done | rfl) ?_; refine (impl_ValidChecker.calls kv m st A2 c2 l2 A3 c3 l3 A4 c4 l4 A5 c5 l5 false _ (Kd.C_below HC.out.r2 HB.out) HC.out.d2 (Kd.C_below HC.out.r3 HB.out) HC.out.d3 (Kd.C_below HC.out.r4 HB.out) HC.out.d4 (Kd.C_below HC.out.r5 HB.out) HC.out.d5 HV.out).mono ?_; rintro e W17 ⟨rfl, hb⟩; refine ⟨_, rfl, ?_⟩; replace HB := AZ.mk (pT HB.out hb); replace BC := AZ.mk (bb_ BC.out hb); replace BD := AZ.mk (bb_ BD.out hb); replace BF := AZ.mk (bb_ BF.out hb); replace BZ := AZ.mk (bb_ BZ.out hb); replace BN := AZ.mk (bb_ BN.out hb); replace BM := AZ.mk (bb_ BM.out hb); clear hb) | ((with_reducible refine gate_ (.store 27 (.tmp 6) (.tmp 24)) rfl ?_); refine store27 rfl 6 24 rfl (g := gZ) (old := cZ) (cs := cZ) rfl rfl BZ.out rfl rfl (cells4_one 0 0 none none none none 0 0 0 0 0 0 0 0) ?_; intro w9 hbx hB hfar))
   refine bodyPost_ret (results_ct rfl _ _ gZ 27 cZ (0, 0) _ rfl hbx Try.underlying27 rfl (by kernel_rfl)) rfl ?_
   exact HP.out _ (hB _ _ HB.out GZ.out)
  have HV := AZ.mk hv
  clear HX hv
  rcases hx with ⟨hu, hp⟩ | ⟨hu, hx⟩
  ·as_aux_lemma =>
   have HU := AZ.mk hu
   have HP := AZ.mk hp
   clear hu hp
   go_wp2_with (first | ((with_reducible refine Zc (N := 16) rfl ?_); refine load27 rfl 3 rfl (g := gC) rfl BC.out rfl ?_) | ((with_reducible refine Zc (N := 17) rfl ?_); refine Zi (some 17) rfl rfl Try.func76 (by kernel_rfl) rfl #[.agg #[.int .i64 m, .int .i64 st, .slice A2 l2.length c2, .slice A3 l3.length c3, .slice A4 l4.length c4, .slice A5 l5.length c5]] rfl (by (try simp only [mA, mB, mC]); first | done | rfl) ?_; refine (impl_ValidChecker.calls kv m st A2 c2 l2 A3 c3 l3 A4 c4 l4 A5 c5 l5 true _ (Kd.C_below HC.out.r2 HB.out) HC.out.d2 (Kd.C_below HC.out.r3 HB.out) HC.out.d3 (Kd.C_below HC.out.r4 HB.out) HC.out.d4 (Kd.C_below HC.out.r5 HB.out) HC.out.d5 HV.out).mono ?_; rintro e W17 ⟨rfl, hb⟩; refine ⟨_, rfl, ?_⟩; replace HB := AZ.mk (pT HB.out hb); replace BC := AZ.mk (bb_ BC.out hb); replace BD := AZ.mk (bb_ BD.out hb); replace BF := AZ.mk (bb_ BF.out hb); replace BZ := AZ.mk (bb_ BZ.out hb); replace BN := AZ.mk (bb_ BN.out hb); replace BM := AZ.mk (bb_ BM.out hb); clear hb) | ((with_reducible refine Zc (N := 20) rfl ?_); refine gate_guard (by rfl) ?_; refine load27 rfl 4 rfl (g := gD) rfl BD.out rfl ?_) | ((with_reducible refine Zc (N := 21) rfl ?_); refine gate_guard (by rfl) ?_; refine Zi (some 21) rfl rfl Try.func76 (by kernel_rfl) rfl #[.agg #[.int .i64 m', .int .i64 st', .slice B2 p2.length d2, .slice B3 p3.length d3, .slice B4 p4.length d4, .slice B5 p5.length d5]] rfl (by (try simp only [mA, mB, mC]); first | done | rfl) ?_; refine (impl_ValidChecker.calls kv m' st' B2 d2 p2 B3 d3 p3 B4 d4 p4 B5 d5 p5 false _ (Kd.C_below HD.out.r2 HB.out) HD.out.d2 (Kd.C_below HD.out.r3 HB.out) HD.out.d3 (Kd.C_below HD.out.r4 HB.out) HD.out.d4 (Kd.C_below HD.out.r5 HB.out) HD.out.d5 HU.out).mono ?_; rintro e W21 ⟨rfl, hb⟩; refine ⟨_, rfl, ?_⟩; replace HB := AZ.mk (pT HB.out hb); replace BC := AZ.mk (bb_ BC.out hb); replace BD := AZ.mk (bb_ BD.out hb); replace BF := AZ.mk (bb_ BF.out hb); replace BZ := AZ.mk (bb_ BZ.out hb); replace BN := AZ.mk (bb_ BN.out hb); replace BM := AZ.mk (bb_ BM.out hb); clear hb) | ((with_reducible refine gate_ (.store 27 (.tmp 6) (.tmp 24)) rfl ?_); refine store27 rfl 6 24 rfl (g := gZ) (old := cZ) (cs := cZ) rfl rfl BZ.out rfl rfl (cells4_one 0 0 none none none none 0 0 0 0 0 0 0 0) ?_; intro w9 hbx hB hfar))
   refine bodyPost_ret (results_ct rfl _ _ gZ 27 cZ (0, 0) _ rfl hbx Try.underlying27 rfl (by kernel_rfl)) rfl ?_
   exact HP.out _ (hB _ _ HB.out GZ.out)
  have HU := AZ.mk hu
  have HX := AZ.mk hx
  clear hu hx
  go_wp2_with (first | ((with_reducible refine Zc (N := 16) rfl ?_); refine load27 rfl 3 rfl (g := gC) rfl BC.out rfl ?_) | ((with_reducible refine Zc (N := 17) rfl ?_); refine Zi (some 17) rfl rfl Try.func76 (by kernel_rfl) rfl #[.agg #[.int .i64 m, .int .i64 st, .slice A2 l2.length c2, .slice A3 l3.length c3, .slice A4 l4.length c4, .slice A5 l5.length c5]] rfl (by (try simp only [mA, mB, mC]); first | done | rfl) ?_; refine (impl_ValidChecker.calls kv m st A2 c2 l2 A3 c3 l3 A4 c4 l4 A5 c5 l5 true _ (Kd.C_below HC.out.r2 HB.out) HC.out.d2 (Kd.C_below HC.out.r3 HB.out) HC.out.d3 (Kd.C_below HC.out.r4 HB.out) HC.out.d4 (Kd.C_below HC.out.r5 HB.out) HC.out.d5 HV.out).mono ?_; rintro e W17 ⟨rfl, hb⟩; refine ⟨_, rfl, ?_⟩; replace HB := AZ.mk (pT HB.out hb); replace BC := AZ.mk (bb_ BC.out hb); replace BD := AZ.mk (bb_ BD.out hb); replace BF := AZ.mk (bb_ BF.out hb); replace BZ := AZ.mk (bb_ BZ.out hb); replace BN := AZ.mk (bb_ BN.out hb); replace BM := AZ.mk (bb_ BM.out hb); clear hb) | ((with_reducible refine Zc (N := 20) rfl ?_); refine gate_guard (by rfl) ?_; refine load27 rfl 4 rfl (g := gD) rfl BD.out rfl ?_) | ((with_reducible refine Zc (N := 21) rfl ?_); refine gate_guard (by rfl) ?_; refine Zi (some 21) rfl rfl Try.func76 (by kernel_rfl) rfl #[.agg #[.int .i64 m', .int .i64 st', .slice B2 p2.length d2, .slice B3 p3.length d3, .slice B4 p4.length d4, .slice B5 p5.length d5]] rfl (by (try simp only [mA, mB, mC]); first | done | rfl) ?_; refine (impl_ValidChecker.calls kv m' st' B2 d2 p2 B3 d3 p3 B4 d4 p4 B5 d5 p5 true _ (Kd.C_below HD.out.r2 HB.out) HD.out.d2 (Kd.C_below HD.out.r3 HB.out) HD.out.d3 (Kd.C_below HD.out.r4 HB.out) HD.out.d4 (Kd.C_below HD.out.r5 HB.out) HD.out.d5 HU.out).mono ?_; rintro e W21 ⟨rfl, hb⟩; refine ⟨_, rfl, ?_⟩; replace HB := AZ.mk (pT HB.out hb); replace BC := AZ.mk (bb_ BC.out hb); replace BD := AZ.mk (bb_ BD.out hb); replace BF := AZ.mk (bb_ BF.out hb); replace BZ := AZ.mk (bb_ BZ.out hb); replace BN := AZ.mk (bb_ BN.out hb); replace BM := AZ.mk (bb_ BM.out hb); clear hb))
  rcases HX.out with ⟨hq, hp⟩ | ⟨hq, hx⟩
  ·as_aux_lemma =>
   have HQ := AZ.mk hq
   have HP := AZ.mk hp
   clear hq hp HX
   have q1 := dT HQ.out
   refine start_ (n := 14) (S := fun w' => True) (ds := []) (bz 14 0) (by kernel_rfl) rfl rfl trivial (fun hHeld => ?_)
   refine Yh paired.tab4 paired.bits4 (fun HT_ HW_ => ?_)
   have n0_ := AZ.mk (pD HB.out)
   have n1_ := AZ.mk (bd_ BC.out)
   have n2_ := AZ.mk (bd_ BD.out)
   have n3_ := AZ.mk (bd_ BF.out)
   have n4_ := AZ.mk (bd_ BZ.out)
   have n5_ := AZ.mk (bd_ BN.out)
   have n6_ := AZ.mk (bd_ BM.out)
   clear HB BC BD BF BZ BN BM
   have HB := n0_
   have BC := n1_
   have BD := n2_
   have BF := n3_
   have BZ := n4_
   have BN := n5_
   have BM := n6_
   clear n0_ n1_ n2_ n3_ n4_ n5_ n6_
   generalize World.drew _ = wD at HB BC BD BF BZ BN BM hHeld ⊢
   refine Ya (i := 0) (N := some 26) (v := ?_) (a' := ?_) (bz 14 1) rfl rfl (Zm HT_.out (by kernel_rfl)) (fun _ _ _ h => h) (Or.inl ⟨by rfl, ?_⟩) ?_ ?_
   rotate_left
   ·intro w'
    go_simp
    with_reducible rfl
   rotate_left
   ·simp only [Act.put, sA, sB, sC, i64_w, i32_w]
    rfl
   refine inv_at [1, 2, 3, 4, 5, 6, 7, 8, 9, 10, 11, 12, 13] (fun a0_ b a w' => a = Zz a0_ b [(1, 27, .slice A2 l2.length c2), (2, 28, .int .i64 (l2.length : Int)), (3, 29, .int .i64 (p2.length : Int)), (4, 30, .int .i64 (wrap64 ((l2.length : Int) * (p2.length : Int)))), (5, 31, .bool true), (6, 32, .bool true), (7, 33, undef), (8, 34, undef), (9, 35, undef), (10, 36, undef), (11, 37, undef), (12, 38, .bool true), (13, 25, .bool true)] ∧ (Below w.heap.size w w') ∧ (w'.heap[gC]? = some (.cells #[.int .i64 m, .int .i64 st, .slice A2 l2.length c2, .slice A3 l3.length c3, .slice A4 l4.length c4, .slice A5 l5.length c5] 27 (0, 0))) ∧ (w'.heap[gD]? = some (.cells #[.int .i64 m', .int .i64 st', .slice B2 p2.length d2, .slice B3 p3.length d3, .slice B4 p4.length d4, .slice B5 p5.length d5] 27 (0, 0))) ∧ (w'.heap[gF]? = some (.cells #[.func (.func ff) #[] #[]] 81 (0, 0))) ∧ (w'.heap[gZ]? = some (.cells cZ 27 (0, 0))) ∧ (w'.heap[gN]? = some (.cells #[.int .i64 (p2.length : Int)] 2 (0, 0))) ∧ (w'.heap[gM]? = some (.cells #[.int .i64 m'] 2 (0, 0)))) HT_.out HW_.out (by kernel_rfl) (by kernel_rfl) ?_ ?_ ?_
   ·exact ⟨by simp only [Zz, Bool.false_eq_true, if_false], HB.out, BC.out, BD.out, BF.out, BZ.out, BN.out, BM.out⟩
   ·skip
    clear BC BD BF BM BN BZ HB
    refine Za ?_ ?_
    ·rintro b a w' ⟨ha, Q_HB, Q_BC, Q_BD, Q_BF, Q_BZ, Q_BN, Q_BM⟩ hb_ hon hoff
     refine ⟨_, rfl, fun K hK => ?_⟩
     have e26 : a.tmps[26]? = some (.pointer (some ⟨gC, 2, none⟩)) := xH_ ha rfl rfl
     replace ha := AZ.mk ha
     have BC := AZ.mk Q_BC
     have hc_ : w'.cell? ⟨gC, 2, none⟩ = some (.slice A2 l2.length c2) := (bc BC.out 2).trans rfl
     refine Zg (w1 := w') (v := .slice A2 l2.length c2) (by rfl) rfl (by go_simp; (try simp only [i64_w]); try rfl) ?_
     refine hK.out _ _ ⟨(xI_ ha.out 0 hb_ rfl rfl rfl), Q_HB, Q_BC, Q_BD, Q_BF, Q_BZ, Q_BN, Q_BM⟩
    refine Za ?_ ?_
    ·rintro b a w' ⟨ha, Q_HB, Q_BC, Q_BD, Q_BF, Q_BZ, Q_BN, Q_BM⟩ hb_ hon hoff
     refine ⟨_, rfl, fun K hK => ?_⟩
     have e27 := xG_ ha 0 rfl (hon 1 rfl) rfl rfl
     replace ha := AZ.mk ha
     have HB := AZ.mk Q_HB
     have BC := AZ.mk Q_BC
     have BD := AZ.mk Q_BD
     have BF := AZ.mk Q_BF
     have BZ := AZ.mk Q_BZ
     have BN := AZ.mk Q_BN
     have BM := AZ.mk Q_BM
     refine goes_ Try.func97 (by kernel_rfl) rfl #[.slice A2 l2.length c2] (by rfl) rfl rfl (by simp only [mA, mB, mC, Zt e27]) ?_
     refine (impl_size_bool.calls _ _ l2 _ _ (Kd.C_below HC.out.r2 HB.out) HC.out.d2 rfl).mono ?_
     rintro e w_ ⟨rfl, hd⟩
     refine ⟨_, rfl, ?_⟩
     have hb := hd.below
     refine hK.out _ _ ⟨(xI_ ha.out 1 hb_ rfl rfl rfl), pT HB.out hb, bb_ BC.out hb, bb_ BD.out hb, bb_ BF.out hb, bb_ BZ.out hb, bb_ BN.out hb, bb_ BM.out hb⟩
    refine Za ?_ ?_
    ·rintro b a w' ⟨ha, Q_HB, Q_BC, Q_BD, Q_BF, Q_BZ, Q_BN, Q_BM⟩ hb_ hon hoff
     refine ⟨_, rfl, fun K hK => ?_⟩
     have e8 : a.tmps[8]? = some (.pointer (some ⟨gN, 0, none⟩)) := xH_ ha rfl rfl
     replace ha := AZ.mk ha
     have BN := AZ.mk Q_BN
     have hc_ : w'.cell? ⟨gN, 0, none⟩ = some (.int .i64 (p2.length : Int)) := (bc BN.out 0).trans rfl
     refine Zg (w1 := w') (v := .int .i64 (p2.length : Int)) (by rfl) rfl (by go_simp; (try simp only [i64_w]); try rfl) ?_
     refine hK.out _ _ ⟨(xI_ ha.out 2 hb_ rfl rfl rfl), Q_HB, Q_BC, Q_BD, Q_BF, Q_BZ, Q_BN, Q_BM⟩
    refine Za ?_ ?_
    ·rintro b a w' ⟨ha, Q_HB, Q_BC, Q_BD, Q_BF, Q_BZ, Q_BN, Q_BM⟩ hb_ hon hoff
     refine ⟨_, rfl, fun K hK => ?_⟩
     have e28 := xG_ ha 1 rfl (hon 2 rfl) rfl rfl
     have e29 := xG_ ha 2 rfl (hon 3 rfl) rfl rfl
     replace ha := AZ.mk ha
     refine Zg (w1 := w') (v := .int .i64 (wrap64 ((l2.length : Int) * (p2.length : Int)))) (by rfl) rfl (by go_simp; (try simp only [i64_w]); try rfl) ?_
     refine hK.out _ _ ⟨(xI_ ha.out 3 hb_ rfl rfl rfl), Q_HB, Q_BC, Q_BD, Q_BF, Q_BZ, Q_BN, Q_BM⟩
    refine Za ?_ ?_
    ·rintro b a w' ⟨ha, Q_HB, Q_BC, Q_BD, Q_BF, Q_BZ, Q_BN, Q_BM⟩ hb_ hon hoff
     refine ⟨_, rfl, fun K hK => ?_⟩
     have e30 := xG_ ha 3 rfl (hon 4 rfl) rfl rfl
     replace ha := AZ.mk ha
     refine Zg (w1 := w') (v := .bool true) (by rfl) rfl (by go_simp; (try simp only [i64_w]); try rfl) ?_
     refine hK.out _ _ ⟨(xI_ ha.out 4 hb_ rfl rfl rfl), Q_HB, Q_BC, Q_BD, Q_BF, Q_BZ, Q_BN, Q_BM⟩
    refine Za ?_ ?_
    ·rintro b a w' ⟨ha, Q_HB, Q_BC, Q_BD, Q_BF, Q_BZ, Q_BN, Q_BM⟩ hb_ hon hoff
     refine ⟨_, rfl, fun K hK => ?_⟩
     have e31 := xG_ ha 4 rfl (hon 5 rfl) rfl rfl
     replace ha := AZ.mk ha
     refine Zg (w1 := w') (v := .bool true) (by rfl) rfl (by go_simp; (try simp only [i64_w]); try rfl) ?_
     refine hK.out _ _ ⟨(xI_ ha.out 5 hb_ rfl rfl rfl), Q_HB, Q_BC, Q_BD, Q_BF, Q_BZ, Q_BN, Q_BM⟩
    refine Za ?_ ?_
    ·rintro b a w' ⟨ha, Q_HB, Q_BC, Q_BD, Q_BF, Q_BZ, Q_BN, Q_BM⟩ hb_ hon hoff
     refine ⟨_, rfl, fun K hK => ?_⟩
     have e32 := xG_ ha 5 rfl (hon 6 rfl) rfl rfl
     replace ha := AZ.mk ha
     refine off_ (wanted_off rfl rfl rfl (e32.trans (by first | rfl | (simp [*]; done)))) ?_
     refine hK.out _ _ ⟨(xI_ ha.out 6 hb_ rfl rfl rfl), Q_HB, Q_BC, Q_BD, Q_BF, Q_BZ, Q_BN, Q_BM⟩
    refine Za ?_ ?_
    ·rintro b a w' ⟨ha, Q_HB, Q_BC, Q_BD, Q_BF, Q_BZ, Q_BN, Q_BM⟩ hb_ hon hoff
     refine ⟨_, rfl, fun K hK => ?_⟩
     have e32 := xG_ ha 5 rfl (hon 6 rfl) rfl rfl
     replace ha := AZ.mk ha
     refine off_ (wanted_off rfl rfl rfl (e32.trans (by first | rfl | (simp [*]; done)))) ?_
     refine hK.out _ _ ⟨(xI_ ha.out 7 hb_ rfl rfl rfl), Q_HB, Q_BC, Q_BD, Q_BF, Q_BZ, Q_BN, Q_BM⟩
    refine Za ?_ ?_
    ·rintro b a w' ⟨ha, Q_HB, Q_BC, Q_BD, Q_BF, Q_BZ, Q_BN, Q_BM⟩ hb_ hon hoff
     refine ⟨_, rfl, fun K hK => ?_⟩
     have e32 := xG_ ha 5 rfl (hon 6 rfl) rfl rfl
     replace ha := AZ.mk ha
     refine off_ (wanted_off rfl rfl rfl (e32.trans (by first | rfl | (simp [*]; done)))) ?_
     refine hK.out _ _ ⟨(xI_ ha.out 8 hb_ rfl rfl rfl), Q_HB, Q_BC, Q_BD, Q_BF, Q_BZ, Q_BN, Q_BM⟩
    refine Za ?_ ?_
    ·rintro b a w' ⟨ha, Q_HB, Q_BC, Q_BD, Q_BF, Q_BZ, Q_BN, Q_BM⟩ hb_ hon hoff
     refine ⟨_, rfl, fun K hK => ?_⟩
     have e32 := xG_ ha 5 rfl (hon 6 rfl) rfl rfl
     replace ha := AZ.mk ha
     refine off_ (wanted_off rfl rfl rfl (e32.trans (by first | rfl | (simp [*]; done)))) ?_
     refine hK.out _ _ ⟨(xI_ ha.out 9 hb_ rfl rfl rfl), Q_HB, Q_BC, Q_BD, Q_BF, Q_BZ, Q_BN, Q_BM⟩
    refine Za ?_ ?_
    ·rintro b a w' ⟨ha, Q_HB, Q_BC, Q_BD, Q_BF, Q_BZ, Q_BN, Q_BM⟩ hb_ hon hoff
     refine ⟨_, rfl, fun K hK => ?_⟩
     have e32 := xG_ ha 5 rfl (hon 6 rfl) rfl rfl
     replace ha := AZ.mk ha
     refine off_ (wanted_off rfl rfl rfl (e32.trans (by first | rfl | (simp [*]; done)))) ?_
     refine hK.out _ _ ⟨(xI_ ha.out 10 hb_ rfl rfl rfl), Q_HB, Q_BC, Q_BD, Q_BF, Q_BZ, Q_BN, Q_BM⟩
    refine Za ?_ ?_
    ·rintro b a w' ⟨ha, Q_HB, Q_BC, Q_BD, Q_BF, Q_BZ, Q_BN, Q_BM⟩ hb_ hon hoff
     refine ⟨_, rfl, fun K hK => ?_⟩
     have e32 := xG_ ha 5 rfl (hon 6 rfl) rfl rfl
     have e37 := xG_ ha 10 rfl (hon 11 rfl) rfl rfl
     replace ha := AZ.mk ha
     refine Zg (w1 := w') (v := .bool true) (by rfl) rfl (by go_simp; (try simp only [i64_w]); try rfl) ?_
     refine hK.out _ _ ⟨(xI_ ha.out 11 hb_ rfl rfl rfl), Q_HB, Q_BC, Q_BD, Q_BF, Q_BZ, Q_BN, Q_BM⟩
    refine Za ?_ ?_
    ·rintro b a w' ⟨ha, Q_HB, Q_BC, Q_BD, Q_BF, Q_BZ, Q_BN, Q_BM⟩ hb_ hon hoff
     refine ⟨_, rfl, fun K hK => ?_⟩
     have e38 := xG_ ha 11 rfl (hon 12 rfl) rfl rfl
     replace ha := AZ.mk ha
     refine Zg (w1 := w') (v := .bool true) (by rfl) rfl (by go_simp; (try simp only [i64_w]); try rfl) ?_
     refine hK.out _ _ ⟨(xI_ ha.out 12 hb_ rfl rfl rfl), Q_HB, Q_BC, Q_BD, Q_BF, Q_BZ, Q_BN, Q_BM⟩
    exact steps_nil
   ·rintro b a w' hall ⟨ha, Q_HB, Q_BC, Q_BD, Q_BF, Q_BZ, Q_BN, Q_BM⟩
    clear BC BD BF BM BN BZ HB
    have hb1_ := hall 1 (by kernel_rfl)
    have hb2_ := hall 2 (by kernel_rfl)
    have hb3_ := hall 3 (by kernel_rfl)
    have hb4_ := hall 4 (by kernel_rfl)
    have hb5_ := hall 5 (by kernel_rfl)
    have hb6_ := hall 6 (by kernel_rfl)
    have hb7_ := hall 7 (by kernel_rfl)
    have hb8_ := hall 8 (by kernel_rfl)
    have hb9_ := hall 9 (by kernel_rfl)
    have hb10_ := hall 10 (by kernel_rfl)
    have hb11_ := hall 11 (by kernel_rfl)
    have hb12_ := hall 12 (by kernel_rfl)
    have hb13_ := hall 13 (by kernel_rfl)
    subst ha
    simp only [Zz, hb1_, hb2_, hb3_, hb4_, hb5_, hb6_, hb7_, hb8_, hb9_, hb10_, hb11_, hb12_, hb13_, if_true, Act.put, sA, sB, sC]
    have HB := AZ.mk Q_HB
    clear Q_HB
    have BC := AZ.mk Q_BC
    clear Q_BC
    have BD := AZ.mk Q_BD
    clear Q_BD
    have BF := AZ.mk Q_BF
    clear Q_BF
    have BZ := AZ.mk Q_BZ
    clear Q_BZ
    have BN := AZ.mk Q_BN
    clear Q_BN
    have BM := AZ.mk Q_BM
    clear Q_BM
    clear hall hb1_ hb2_ hb3_ hb4_ hb5_ hb6_ hb7_ hb8_ hb9_ hb10_ hb11_ hb12_ hb13_
    go_wp2_with (first | ((with_reducible refine gate_ (.store 27 (.tmp 6) (.tmp 39)) rfl ?_); refine store27 rfl 6 39 rfl (g := gZ) (old := cZ) (cs := cZ) rfl rfl BZ.out rfl rfl (cells4_one 0 0 none none none none 0 0 0 0 0 0 0 0) ?_; intro w9 hbx hB hfar))
    refine bodyPost_ret (results_ct rfl _ _ gZ 27 cZ (0, 0) _ rfl hbx Try.underlying27 rfl (by kernel_rfl)) rfl ?_
    exact HP.out _ (hB _ _ HB.out GZ.out)
  have HQ := AZ.mk hq
  clear HX hq
  have HX := AZ.mk hx
  clear hx
  have q1 := dF (Int.not_lt.2 HQ.out)
  obtain ⟨b8, q2⟩ : ∃ b, decide (80 < (wrap64 (m * m'))) = b := ⟨_, rfl⟩
  refine start_ (n := 14) (S := fun w' => True) (ds := []) (bz 14 0) (by kernel_rfl) rfl rfl trivial (fun hHeld => ?_)
  refine Yh paired.tab4 paired.bits4 (fun HT_ HW_ => ?_)
  have n0_ := AZ.mk (pD HB.out)
  have n1_ := AZ.mk (bd_ BC.out)
  have n2_ := AZ.mk (bd_ BD.out)
  have n3_ := AZ.mk (bd_ BF.out)
  have n4_ := AZ.mk (bd_ BZ.out)
  have n5_ := AZ.mk (bd_ BN.out)
  have n6_ := AZ.mk (bd_ BM.out)
  clear HB BC BD BF BZ BN BM
  have HB := n0_
  have BC := n1_
  have BD := n2_
  have BF := n3_
  have BZ := n4_
  have BN := n5_
  have BM := n6_
  clear n0_ n1_ n2_ n3_ n4_ n5_ n6_
  generalize World.drew _ = wD at HB BC BD BF BZ BN BM hHeld ⊢
  refine Ya (i := 0) (N := some 26) (v := ?_) (a' := ?_) (bz 14 1) rfl rfl (Zm HT_.out (by kernel_rfl)) (fun _ _ _ h => h) (Or.inl ⟨by rfl, ?_⟩) ?_ ?_
  rotate_left
  ·intro w'
   go_simp
   with_reducible rfl
  rotate_left
  ·simp only [Act.put, sA, sB, sC, i64_w, i32_w]
   rfl
  refine inv_at [1, 2, 3, 4, 5, 6, 7, 8, 9, 10, 11, 12, 13] (fun a0_ b a w' => a = Zz a0_ b [(1, 27, .slice A2 l2.length c2), (2, 28, .int .i64 (l2.length : Int)), (3, 29, .int .i64 (p2.length : Int)), (4, 30, .int .i64 (wrap64 ((l2.length : Int) * (p2.length : Int)))), (5, 31, .bool false), (6, 32, .bool false), (7, 33, .pointer (some ⟨gC, 0, none⟩)), (8, 34, .int .i64 m), (9, 35, .int .i64 m'), (10, 36, .int .i64 (wrap64 (m * m'))), (11, 37, .bool b8), (12, 38, .bool b8), (13, 25, .bool b8)] ∧ (Below w.heap.size w w') ∧ (w'.heap[gC]? = some (.cells #[.int .i64 m, .int .i64 st, .slice A2 l2.length c2, .slice A3 l3.length c3, .slice A4 l4.length c4, .slice A5 l5.length c5] 27 (0, 0))) ∧ (w'.heap[gD]? = some (.cells #[.int .i64 m', .int .i64 st', .slice B2 p2.length d2, .slice B3 p3.length d3, .slice B4 p4.length d4, .slice B5 p5.length d5] 27 (0, 0))) ∧ (w'.heap[gF]? = some (.cells #[.func (.func ff) #[] #[]] 81 (0, 0))) ∧ (w'.heap[gZ]? = some (.cells cZ 27 (0, 0))) ∧ (w'.heap[gN]? = some (.cells #[.int .i64 (p2.length : Int)] 2 (0, 0))) ∧ (w'.heap[gM]? = some (.cells #[.int .i64 m'] 2 (0, 0)))) HT_.out HW_.out (by kernel_rfl) (by kernel_rfl) ?_ ?_ ?_
  ·exact ⟨by simp only [Zz, Bool.false_eq_true, if_false], HB.out, BC.out, BD.out, BF.out, BZ.out, BN.out, BM.out⟩
  ·skip
   clear BC BD BF BM BN BZ HB
   refine Za ?_ ?_
   ·rintro b a w' ⟨ha, Q_HB, Q_BC, Q_BD, Q_BF, Q_BZ, Q_BN, Q_BM⟩ hb_ hon hoff
    refine ⟨_, rfl, fun K hK => ?_⟩
    have e26 : a.tmps[26]? = some (.pointer (some ⟨gC, 2, none⟩)) := xH_ ha rfl rfl
    replace ha := AZ.mk ha
    have BC := AZ.mk Q_BC
    have hc_ : w'.cell? ⟨gC, 2, none⟩ = some (.slice A2 l2.length c2) := (bc BC.out 2).trans rfl
    refine Zg (w1 := w') (v := .slice A2 l2.length c2) (by rfl) rfl (by go_simp; (try simp only [i64_w]); try rfl) ?_
    refine hK.out _ _ ⟨(xI_ ha.out 0 hb_ rfl rfl rfl), Q_HB, Q_BC, Q_BD, Q_BF, Q_BZ, Q_BN, Q_BM⟩
   refine Za ?_ ?_
   ·rintro b a w' ⟨ha, Q_HB, Q_BC, Q_BD, Q_BF, Q_BZ, Q_BN, Q_BM⟩ hb_ hon hoff
    refine ⟨_, rfl, fun K hK => ?_⟩
    have e27 := xG_ ha 0 rfl (hon 1 rfl) rfl rfl
    replace ha := AZ.mk ha
    have HB := AZ.mk Q_HB
    have BC := AZ.mk Q_BC
    have BD := AZ.mk Q_BD
    have BF := AZ.mk Q_BF
    have BZ := AZ.mk Q_BZ
    have BN := AZ.mk Q_BN
    have BM := AZ.mk Q_BM
    refine goes_ Try.func97 (by kernel_rfl) rfl #[.slice A2 l2.length c2] (by rfl) rfl rfl (by simp only [mA, mB, mC, Zt e27]) ?_
    refine (impl_size_bool.calls _ _ l2 _ _ (Kd.C_below HC.out.r2 HB.out) HC.out.d2 rfl).mono ?_
    rintro e w_ ⟨rfl, hd⟩
    refine ⟨_, rfl, ?_⟩
    have hb := hd.below
    refine hK.out _ _ ⟨(xI_ ha.out 1 hb_ rfl rfl rfl), pT HB.out hb, bb_ BC.out hb, bb_ BD.out hb, bb_ BF.out hb, bb_ BZ.out hb, bb_ BN.out hb, bb_ BM.out hb⟩
   refine Za ?_ ?_
   ·rintro b a w' ⟨ha, Q_HB, Q_BC, Q_BD, Q_BF, Q_BZ, Q_BN, Q_BM⟩ hb_ hon hoff
    refine ⟨_, rfl, fun K hK => ?_⟩
    have e8 : a.tmps[8]? = some (.pointer (some ⟨gN, 0, none⟩)) := xH_ ha rfl rfl
    replace ha := AZ.mk ha
    have BN := AZ.mk Q_BN
    have hc_ : w'.cell? ⟨gN, 0, none⟩ = some (.int .i64 (p2.length : Int)) := (bc BN.out 0).trans rfl
    refine Zg (w1 := w') (v := .int .i64 (p2.length : Int)) (by rfl) rfl (by go_simp; (try simp only [i64_w]); try rfl) ?_
    refine hK.out _ _ ⟨(xI_ ha.out 2 hb_ rfl rfl rfl), Q_HB, Q_BC, Q_BD, Q_BF, Q_BZ, Q_BN, Q_BM⟩
   refine Za ?_ ?_
   ·rintro b a w' ⟨ha, Q_HB, Q_BC, Q_BD, Q_BF, Q_BZ, Q_BN, Q_BM⟩ hb_ hon hoff
    refine ⟨_, rfl, fun K hK => ?_⟩
    have e28 := xG_ ha 1 rfl (hon 2 rfl) rfl rfl
    have e29 := xG_ ha 2 rfl (hon 3 rfl) rfl rfl
    replace ha := AZ.mk ha
    refine Zg (w1 := w') (v := .int .i64 (wrap64 ((l2.length : Int) * (p2.length : Int)))) (by rfl) rfl (by go_simp; (try simp only [i64_w]); try rfl) ?_
    refine hK.out _ _ ⟨(xI_ ha.out 3 hb_ rfl rfl rfl), Q_HB, Q_BC, Q_BD, Q_BF, Q_BZ, Q_BN, Q_BM⟩
   refine Za ?_ ?_
   ·rintro b a w' ⟨ha, Q_HB, Q_BC, Q_BD, Q_BF, Q_BZ, Q_BN, Q_BM⟩ hb_ hon hoff
    refine ⟨_, rfl, fun K hK => ?_⟩
    have e30 := xG_ ha 3 rfl (hon 4 rfl) rfl rfl
    replace ha := AZ.mk ha
    refine Zg (w1 := w') (v := .bool false) (by rfl) rfl (by go_simp; (try simp only [i64_w]); try rfl) ?_
    refine hK.out _ _ ⟨(xI_ ha.out 4 hb_ rfl rfl rfl), Q_HB, Q_BC, Q_BD, Q_BF, Q_BZ, Q_BN, Q_BM⟩
   refine Za ?_ ?_
   ·rintro b a w' ⟨ha, Q_HB, Q_BC, Q_BD, Q_BF, Q_BZ, Q_BN, Q_BM⟩ hb_ hon hoff
    refine ⟨_, rfl, fun K hK => ?_⟩
    have e31 := xG_ ha 4 rfl (hon 5 rfl) rfl rfl
    replace ha := AZ.mk ha
    refine Zg (w1 := w') (v := .bool false) (by rfl) rfl (by go_simp; (try simp only [i64_w]); try rfl) ?_
    refine hK.out _ _ ⟨(xI_ ha.out 5 hb_ rfl rfl rfl), Q_HB, Q_BC, Q_BD, Q_BF, Q_BZ, Q_BN, Q_BM⟩
   refine Za ?_ ?_
   ·rintro b a w' ⟨ha, Q_HB, Q_BC, Q_BD, Q_BF, Q_BZ, Q_BN, Q_BM⟩ hb_ hon hoff
    refine ⟨_, rfl, fun K hK => ?_⟩
    have e3 : a.tmps[3]? = some (.pointer (some ⟨gC, 0, none⟩)) := xH_ ha rfl rfl
    have e32 := xG_ ha 5 rfl (hon 6 rfl) rfl rfl
    replace ha := AZ.mk ha
    refine Zg (w1 := w') (v := .pointer (some ⟨gC, 0, none⟩)) (wanted_on rfl rfl rfl (e32.trans (by first | rfl | (simp [*]; done)))) rfl ?_ ?_
    ·go_simp
     (try simp only [i64_w])
     try rfl
    refine hK.out _ _ ⟨(xI_ ha.out 6 hb_ rfl rfl rfl), Q_HB, Q_BC, Q_BD, Q_BF, Q_BZ, Q_BN, Q_BM⟩
   refine Za ?_ ?_
   ·rintro b a w' ⟨ha, Q_HB, Q_BC, Q_BD, Q_BF, Q_BZ, Q_BN, Q_BM⟩ hb_ hon hoff
    refine ⟨_, rfl, fun K hK => ?_⟩
    have e33 := xG_ ha 6 rfl (hon 7 rfl) rfl rfl
    have e32 := xG_ ha 5 rfl (hon 6 rfl) rfl rfl
    replace ha := AZ.mk ha
    have BC := AZ.mk Q_BC
    have hc_ : w'.cell? ⟨gC, 0, none⟩ = some (.int .i64 m) := (bc BC.out 0).trans rfl
    refine Zg (w1 := w') (v := .int .i64 m) (wanted_on rfl rfl rfl (e32.trans (by first | rfl | (simp [*]; done)))) rfl ?_ ?_
    ·go_simp
     (try simp only [i64_w])
     try rfl
    refine hK.out _ _ ⟨(xI_ ha.out 7 hb_ rfl rfl rfl), Q_HB, Q_BC, Q_BD, Q_BF, Q_BZ, Q_BN, Q_BM⟩
   refine Za ?_ ?_
   ·rintro b a w' ⟨ha, Q_HB, Q_BC, Q_BD, Q_BF, Q_BZ, Q_BN, Q_BM⟩ hb_ hon hoff
    refine ⟨_, rfl, fun K hK => ?_⟩
    have e9 : a.tmps[9]? = some (.pointer (some ⟨gM, 0, none⟩)) := xH_ ha rfl rfl
    have e32 := xG_ ha 5 rfl (hon 6 rfl) rfl rfl
    replace ha := AZ.mk ha
    have BM := AZ.mk Q_BM
    have hc_ : w'.cell? ⟨gM, 0, none⟩ = some (.int .i64 m') := (bc BM.out 0).trans rfl
    refine Zg (w1 := w') (v := .int .i64 m') (wanted_on rfl rfl rfl (e32.trans (by first | rfl | (simp [*]; done)))) rfl ?_ ?_
    ·go_simp
     (try simp only [i64_w])
     try rfl
    refine hK.out _ _ ⟨(xI_ ha.out 8 hb_ rfl rfl rfl), Q_HB, Q_BC, Q_BD, Q_BF, Q_BZ, Q_BN, Q_BM⟩
   refine Za ?_ ?_
   ·rintro b a w' ⟨ha, Q_HB, Q_BC, Q_BD, Q_BF, Q_BZ, Q_BN, Q_BM⟩ hb_ hon hoff
    refine ⟨_, rfl, fun K hK => ?_⟩
    have e34 := xG_ ha 7 rfl (hon 8 rfl) rfl rfl
    have e35 := xG_ ha 8 rfl (hon 9 rfl) rfl rfl
    have e32 := xG_ ha 5 rfl (hon 6 rfl) rfl rfl
    replace ha := AZ.mk ha
    refine Zg (w1 := w') (v := .int .i64 (wrap64 (m * m'))) (wanted_on rfl rfl rfl (e32.trans (by first | rfl | (simp [*]; done)))) rfl ?_ ?_
    ·go_simp
     (try simp only [i64_w])
     try rfl
    refine hK.out _ _ ⟨(xI_ ha.out 9 hb_ rfl rfl rfl), Q_HB, Q_BC, Q_BD, Q_BF, Q_BZ, Q_BN, Q_BM⟩
   refine Za ?_ ?_
   ·rintro b a w' ⟨ha, Q_HB, Q_BC, Q_BD, Q_BF, Q_BZ, Q_BN, Q_BM⟩ hb_ hon hoff
    refine ⟨_, rfl, fun K hK => ?_⟩
    have e36 := xG_ ha 9 rfl (hon 10 rfl) rfl rfl
    have e32 := xG_ ha 5 rfl (hon 6 rfl) rfl rfl
    replace ha := AZ.mk ha
    refine Zg (w1 := w') (v := .bool b8) (wanted_on rfl rfl rfl (e32.trans (by first | rfl | (simp [*]; done)))) rfl ?_ ?_
    ·go_simp
     (try simp only [i64_w])
     try rfl
    refine hK.out _ _ ⟨(xI_ ha.out 10 hb_ rfl rfl rfl), Q_HB, Q_BC, Q_BD, Q_BF, Q_BZ, Q_BN, Q_BM⟩
   refine Za ?_ ?_
   ·rintro b a w' ⟨ha, Q_HB, Q_BC, Q_BD, Q_BF, Q_BZ, Q_BN, Q_BM⟩ hb_ hon hoff
    refine ⟨_, rfl, fun K hK => ?_⟩
    have e32 := xG_ ha 5 rfl (hon 6 rfl) rfl rfl
    have e37 := xG_ ha 10 rfl (hon 11 rfl) rfl rfl
    replace ha := AZ.mk ha
    refine Zg (w1 := w') (v := .bool b8) (by rfl) rfl (by go_simp; (try simp only [i64_w]); try rfl) ?_
    refine hK.out _ _ ⟨(xI_ ha.out 11 hb_ rfl rfl rfl), Q_HB, Q_BC, Q_BD, Q_BF, Q_BZ, Q_BN, Q_BM⟩
   refine Za ?_ ?_
   ·rintro b a w' ⟨ha, Q_HB, Q_BC, Q_BD, Q_BF, Q_BZ, Q_BN, Q_BM⟩ hb_ hon hoff
    refine ⟨_, rfl, fun K hK => ?_⟩
    have e38 := xG_ ha 11 rfl (hon 12 rfl) rfl rfl
    replace ha := AZ.mk ha
    refine Zg (w1 := w') (v := .bool b8) (by rfl) rfl (by go_simp; (try simp only [i64_w]); try rfl) ?_
    refine hK.out _ _ ⟨(xI_ ha.out 12 hb_ rfl rfl rfl), Q_HB, Q_BC, Q_BD, Q_BF, Q_BZ, Q_BN, Q_BM⟩
   exact steps_nil
  ·rintro b a w' hall ⟨ha, Q_HB, Q_BC, Q_BD, Q_BF, Q_BZ, Q_BN, Q_BM⟩
   clear BC BD BF BM BN BZ HB
   have hb1_ := hall 1 (by kernel_rfl)
   have hb2_ := hall 2 (by kernel_rfl)
   have hb3_ := hall 3 (by kernel_rfl)
   have hb4_ := hall 4 (by kernel_rfl)
   have hb5_ := hall 5 (by kernel_rfl)
   have hb6_ := hall 6 (by kernel_rfl)
   have hb7_ := hall 7 (by kernel_rfl)
   have hb8_ := hall 8 (by kernel_rfl)
   have hb9_ := hall 9 (by kernel_rfl)
   have hb10_ := hall 10 (by kernel_rfl)
   have hb11_ := hall 11 (by kernel_rfl)
   have hb12_ := hall 12 (by kernel_rfl)
   have hb13_ := hall 13 (by kernel_rfl)
   subst ha
   simp only [Zz, hb1_, hb2_, hb3_, hb4_, hb5_, hb6_, hb7_, hb8_, hb9_, hb10_, hb11_, hb12_, hb13_, if_true, Act.put, sA, sB, sC]
   have HB := AZ.mk Q_HB
   clear Q_HB
   have BC := AZ.mk Q_BC
   clear Q_BC
   have BD := AZ.mk Q_BD
   clear Q_BD
   have BF := AZ.mk Q_BF
   clear Q_BF
   have BZ := AZ.mk Q_BZ
   clear Q_BZ
   have BN := AZ.mk Q_BN
   clear Q_BN
   have BM := AZ.mk Q_BM
   clear Q_BM
   clear hall hb1_ hb2_ hb3_ hb4_ hb5_ hb6_ hb7_ hb8_ hb9_ hb10_ hb11_ hb12_ hb13_
   rcases HX.out with ⟨hr, hp⟩ | ⟨hr, hx⟩
   ·as_aux_lemma =>
    have h8 := q2.symm.trans (dT hr)
    have HP := AZ.mk hp
    clear hr hp HX q2
    subst h8
    go_wp2_with (first | ((with_reducible refine gate_ (.store 27 (.tmp 6) (.tmp 39)) rfl ?_); refine store27 rfl 6 39 rfl (g := gZ) (old := cZ) (cs := cZ) rfl rfl BZ.out rfl rfl (cells4_one 0 0 none none none none 0 0 0 0 0 0 0 0) ?_; intro w9 hbx hB hfar))
    refine bodyPost_ret (results_ct rfl _ _ gZ 27 cZ (0, 0) _ rfl hbx Try.underlying27 rfl (by kernel_rfl)) rfl ?_
    exact HP.out _ (hB _ _ HB.out GZ.out)
   have h8 := q2.symm.trans (dF (Int.not_lt.2 hr))
   clear hr q2
   subst h8
   obtain ⟨n, k, s0, acc, call, back, inner, ⟨hn, hk, en, em, es⟩, hpa, hpc, hpr, hpi, hp⟩ := hx
   have HN := AZ.mk hn
   have HK := AZ.mk hk
   have EN := AZ.mk en
   have EM := AZ.mk em
   have ES := AZ.mk es
   have PA := AZ.mk hpa
   have PC := AZ.mk hpc
   have PR := AZ.mk hpr
   have PI := AZ.mk hpi
   have HP := AZ.mk hp
   clear HX hn hk en em es hpa hpc hpr hpi hp q1
   go_wp2
   refine start_ (n := 23) (S := fun w' => True) (ds := []) (bz 23 0) (by kernel_rfl) rfl rfl trivial (fun hHeld => ?_)
   refine Yh paired.tab6 paired.bits6 (fun HT_ HW_ => ?_)
   have n0_ := AZ.mk (pD HB.out)
   have n1_ := AZ.mk (bd_ BC.out)
   have n2_ := AZ.mk (bd_ BD.out)
   have n3_ := AZ.mk (bd_ BF.out)
   have n4_ := AZ.mk (bd_ BZ.out)
   have n5_ := AZ.mk (bd_ BN.out)
   have n6_ := AZ.mk (bd_ BM.out)
   clear HB BC BD BF BZ BN BM
   have HB := n0_
   have BC := n1_
   have BD := n2_
   have BF := n3_
   have BZ := n4_
   have BN := n5_
   have BM := n6_
   clear n0_ n1_ n2_ n3_ n4_ n5_ n6_
   generalize World.drew _ = wD at HB BC BD BF BZ BN BM hHeld ⊢
   refine Ya (i := 0) (N := some 40) (v := ?_) (a' := ?_) (bz 23 1) rfl rfl (Zm HT_.out (by kernel_rfl)) (fun _ _ _ h => h) (Or.inl ⟨by rfl, ?_⟩) ?_ ?_
   rotate_left
   ·intro w'
    go_simp
    with_reducible rfl
   rotate_left
   ·simp only [Act.put, sA, sB, sC, i64_w, i32_w]
    rfl
   refine Ya (i := 5) (N := some 45) (v := ?_) (a' := ?_) (bz 23 33) rfl rfl (Zm HT_.out (by kernel_rfl)) (fun _ _ _ h => h) (Or.inl ⟨by rfl, ?_⟩) ?_ ?_
   rotate_left
   ·intro w'
    go_simp
    with_reducible rfl
   rotate_left
   ·simp only [Act.put, sA, sB, sC, i64_w, i32_w]
    rfl
   refine Ya (i := 9) (N := some 49) (v := ?_) (a' := ?_) (bz 23 545) rfl rfl (Zm HT_.out (by kernel_rfl)) (fun _ _ _ h => h) (Or.inl ⟨by rfl, ?_⟩) ?_ ?_
   rotate_left
   ·intro w'
    go_simp
    with_reducible rfl
   rotate_left
   ·simp only [Act.put, sA, sB, sC, i64_w, i32_w]
    rfl
   refine Ya (i := 13) (N := some 53) (v := ?_) (a' := ?_) (bz 23 8737) rfl rfl (Zm HT_.out (by kernel_rfl)) (fun _ _ _ h => h) (Or.inl ⟨by rfl, ?_⟩) ?_ ?_
   rotate_left
   ·intro w'
    go_simp
    with_reducible rfl
   rotate_left
   ·simp only [Act.put, sA, sB, sC, i64_w, i32_w]
    rfl
   refine Ya (i := 16) (N := some 56) (v := ?_) (a' := ?_) (bz 23 74273) rfl rfl (Zm HT_.out (by kernel_rfl)) (fun _ _ _ h => h) (Or.inl ⟨by rfl, ?_⟩) ?_ ?_
   rotate_left
   ·intro w'
    go_simp
    with_reducible rfl
   rotate_left
   ·simp only [Act.put, sA, sB, sC, i64_w, i32_w]
    rfl
   refine Ya (i := 17) (N := some 57) (v := ?_) (a' := ?_) (bz 23 205345) rfl rfl (Zm HT_.out (by kernel_rfl)) (fun _ _ _ h => h) (Or.inl ⟨by rfl, ?_⟩) ?_ ?_
   rotate_left
   ·intro w'
    go_simp
    with_reducible rfl
   rotate_left
   ·simp only [Act.put, sA, sB, sC, i64_w, i32_w]
    rfl
   refine Ya (i := 18) (N := some 58) (v := ?_) (a' := ?_) (bz 23 467489) rfl rfl (Zm HT_.out (by kernel_rfl)) (fun _ _ _ h => h) (Or.inl ⟨by rfl, ?_⟩) ?_ ?_
   rotate_left
   ·intro w'
    go_simp
    with_reducible rfl
   rotate_left
   ·simp only [Act.put, sA, sB, sC, i64_w, i32_w]
    rfl
   refine Ya (i := 19) (N := some 59) (v := ?_) (a' := ?_) (bz 23 991777) rfl rfl (Zm HT_.out (by kernel_rfl)) (fun _ _ _ h => h) (Or.inl ⟨by rfl, ?_⟩) ?_ ?_
   rotate_left
   ·intro w'
    go_simp
    with_reducible rfl
   rotate_left
   ·simp only [Act.put, sA, sB, sC, i64_w, i32_w]
    rfl
   refine inv_at [1, 2, 3, 4, 6, 7, 8, 10, 11, 12, 14, 15, 20, 21, 22] (fun a0_ b a w' => ∃ (vA : Value) (vC : Value) (vR : Value) (vI : Value) (nb : Nat) (m20_ : Value), a = Zz a0_ b [(1, 41, .slice A2 l2.length c2), (2, 42, .int .i64 (l2.length : Int)), (3, 43, .int .i64 (p2.length : Int)), (4, 44, .int .i64 (wrap64 ((l2.length : Int) * (p2.length : Int)))), (6, 46, .int .i64 m), (7, 47, .int .i64 m'), (8, 48, .int .i64 (wrap64 (m * m'))), (10, 50, .int .i64 st), (11, 51, .int .i64 (p2.length : Int)), (12, 52, .int .i64 (wrap64 (st * (p2.length : Int)))), (14, 54, .int .i64 st'), (15, 55, .int .i64 (wrap64 (wrap64 (st * (p2.length : Int)) + st'))), (20, 60, m20_), (22, 7, .int .i64 0)] ∧ (Below w.heap.size w w') ∧ (w'.heap[gC]? = some (.cells #[.int .i64 m, .int .i64 st, .slice A2 l2.length c2, .slice A3 l3.length c3, .slice A4 l4.length c4, .slice A5 l5.length c5] 27 (0, 0))) ∧ (w'.heap[gD]? = some (.cells #[.int .i64 m', .int .i64 st', .slice B2 p2.length d2, .slice B3 p3.length d3, .slice B4 p4.length d4, .slice B5 p5.length d5] 27 (0, 0))) ∧ (w'.heap[gF]? = some (.cells #[.func (.func ff) #[] #[]] 81 (0, 0))) ∧ (b 21 = false → w'.heap[gZ]? = some (.cells cZ 27 (0, 0))) ∧ (w'.heap[gN]? = some (.cells #[.int .i64 (p2.length : Int)] 2 (0, 0))) ∧ (w'.heap[gM]? = some (.cells #[.int .i64 m'] 2 (0, 0))) ∧ (b 20 = true → b 21 = false → OwnC w' nb vA vC vR vI (LAs acc n) (LCs call n) (LRs k back n) (LIs inner n) ∧ gZ < nb) ∧ (b 21 = true → OwnC w' w.heap.size vA vC vR vI (LAs acc n) (LCs call n) (LRs k back n) (LIs inner n) ∧ w'.heap[gZ]? = some (.cells (cellsI (k : Int) s0 vA vC vR vI) 27 (0, 0))) ∧ (b 20 = true → (m20_ : Value) = .agg #[.int .i64 (k : Int), .int .i64 s0, vA, vC, vR, vI])) HT_.out HW_.out (by kernel_rfl) (by kernel_rfl) ?_ ?_ ?_
   ·exact ⟨.bool false, .bool false, .bool false, .bool false, 0, .bool false, by simp only [Zz, Bool.false_eq_true, if_false], HB.out, BC.out, BD.out, BF.out, fun _ => BZ.out, BN.out, BM.out, fun h_ => absurd h_ (by decide), fun h_ => absurd h_ (by decide), fun h_ => absurd h_ (by decide)⟩
   ·skip
    clear BC BD BF BM BN BZ HB
    refine Za ?_ ?_
    ·rintro b a w' ⟨vA, vC, vR, vI, nb, m20_, ha, Q_HB, Q_BC, Q_BD, Q_BF, Q_BZ, Q_BN, Q_BM, Q_HO, Q_HO2, Q_X20_⟩ hb_ hon hoff
     refine ⟨_, rfl, fun K hK => ?_⟩
     have e40 : a.tmps[40]? = some (.pointer (some ⟨gC, 2, none⟩)) := xH_ ha rfl rfl
     replace ha := AZ.mk ha
     have BC := AZ.mk Q_BC
     have hc_ : w'.cell? ⟨gC, 2, none⟩ = some (.slice A2 l2.length c2) := (bc BC.out 2).trans rfl
     refine Zg (w1 := w') (v := .slice A2 l2.length c2) (by rfl) rfl (by go_simp; (try simp only [i64_w]); try rfl) ?_
     refine hK.out _ _ ⟨vA, vC, vR, vI, nb, m20_, (xI_ ha.out 0 hb_ rfl rfl rfl), Q_HB, Q_BC, Q_BD, Q_BF, Q_BZ, Q_BN, Q_BM, xB_ (hoff 20 rfl), xA_ (hoff 21 rfl), xA_ (hoff 20 rfl)⟩
    refine Za ?_ ?_
    ·rintro b a w' ⟨vA, vC, vR, vI, nb, m20_, ha, Q_HB, Q_BC, Q_BD, Q_BF, Q_BZ, Q_BN, Q_BM, Q_HO, Q_HO2, Q_X20_⟩ hb_ hon hoff
     refine ⟨_, rfl, fun K hK => ?_⟩
     have e41 := xG_ ha 0 rfl (hon 1 rfl) rfl rfl
     replace ha := AZ.mk ha
     have HB := AZ.mk Q_HB
     have BC := AZ.mk Q_BC
     have BD := AZ.mk Q_BD
     have BF := AZ.mk Q_BF
     have BZ := AZ.mk (Q_BZ (hoff 21 rfl))
     have BN := AZ.mk Q_BN
     have BM := AZ.mk Q_BM
     refine goes_ Try.func97 (by kernel_rfl) rfl #[.slice A2 l2.length c2] (by rfl) rfl rfl (by simp only [mA, mB, mC, Zt e41]) ?_
     refine (impl_size_bool.calls _ _ l2 _ _ (Kd.C_below HC.out.r2 HB.out) HC.out.d2 rfl).mono ?_
     rintro e w_ ⟨rfl, hd⟩
     refine ⟨_, rfl, ?_⟩
     have hb := hd.below
     refine hK.out _ _ ⟨vA, vC, vR, vI, nb, m20_, (xI_ ha.out 1 hb_ rfl rfl rfl), pT HB.out hb, bb_ BC.out hb, bb_ BD.out hb, bb_ BF.out hb, fun _ => bb_ BZ.out hb, bb_ BN.out hb, bb_ BM.out hb, xB_ (hoff 20 rfl), xA_ (hoff 21 rfl), xA_ (hoff 20 rfl)⟩
    refine Za ?_ ?_
    ·rintro b a w' ⟨vA, vC, vR, vI, nb, m20_, ha, Q_HB, Q_BC, Q_BD, Q_BF, Q_BZ, Q_BN, Q_BM, Q_HO, Q_HO2, Q_X20_⟩ hb_ hon hoff
     refine ⟨_, rfl, fun K hK => ?_⟩
     have e8 : a.tmps[8]? = some (.pointer (some ⟨gN, 0, none⟩)) := xH_ ha rfl rfl
     replace ha := AZ.mk ha
     have BN := AZ.mk Q_BN
     have hc_ : w'.cell? ⟨gN, 0, none⟩ = some (.int .i64 (p2.length : Int)) := (bc BN.out 0).trans rfl
     refine Zg (w1 := w') (v := .int .i64 (p2.length : Int)) (by rfl) rfl (by go_simp; (try simp only [i64_w]); try rfl) ?_
     refine hK.out _ _ ⟨vA, vC, vR, vI, nb, m20_, (xI_ ha.out 2 hb_ rfl rfl rfl), Q_HB, Q_BC, Q_BD, Q_BF, Q_BZ, Q_BN, Q_BM, xB_ (hoff 20 rfl), xA_ (hoff 21 rfl), xA_ (hoff 20 rfl)⟩
    refine Za ?_ ?_
    ·rintro b a w' ⟨vA, vC, vR, vI, nb, m20_, ha, Q_HB, Q_BC, Q_BD, Q_BF, Q_BZ, Q_BN, Q_BM, Q_HO, Q_HO2, Q_X20_⟩ hb_ hon hoff
     refine ⟨_, rfl, fun K hK => ?_⟩
     have e42 := xG_ ha 1 rfl (hon 2 rfl) rfl rfl
     have e43 := xG_ ha 2 rfl (hon 3 rfl) rfl rfl
     replace ha := AZ.mk ha
     refine Zg (w1 := w') (v := .int .i64 (wrap64 ((l2.length : Int) * (p2.length : Int)))) (by rfl) rfl (by go_simp; (try simp only [i64_w]); try rfl) ?_
     refine hK.out _ _ ⟨vA, vC, vR, vI, nb, m20_, (xI_ ha.out 3 hb_ rfl rfl rfl), Q_HB, Q_BC, Q_BD, Q_BF, Q_BZ, Q_BN, Q_BM, xB_ (hoff 20 rfl), xA_ (hoff 21 rfl), xA_ (hoff 20 rfl)⟩
    refine Za ?_ ?_
    ·rintro b a w' ⟨vA, vC, vR, vI, nb, m20_, ha, Q_HB, Q_BC, Q_BD, Q_BF, Q_BZ, Q_BN, Q_BM, Q_HO, Q_HO2, Q_X20_⟩ hb_ hon hoff
     refine ⟨_, rfl, fun K hK => ?_⟩
     have e45 : a.tmps[45]? = some (.pointer (some ⟨gC, 0, none⟩)) := xH_ ha rfl rfl
     replace ha := AZ.mk ha
     have BC := AZ.mk Q_BC
     have hc_ : w'.cell? ⟨gC, 0, none⟩ = some (.int .i64 m) := (bc BC.out 0).trans rfl
     refine Zg (w1 := w') (v := .int .i64 m) (by rfl) rfl (by go_simp; (try simp only [i64_w]); try rfl) ?_
     refine hK.out _ _ ⟨vA, vC, vR, vI, nb, m20_, (xI_ ha.out 4 hb_ rfl rfl rfl), Q_HB, Q_BC, Q_BD, Q_BF, Q_BZ, Q_BN, Q_BM, xB_ (hoff 20 rfl), xA_ (hoff 21 rfl), xA_ (hoff 20 rfl)⟩
    refine Za ?_ ?_
    ·rintro b a w' ⟨vA, vC, vR, vI, nb, m20_, ha, Q_HB, Q_BC, Q_BD, Q_BF, Q_BZ, Q_BN, Q_BM, Q_HO, Q_HO2, Q_X20_⟩ hb_ hon hoff
     refine ⟨_, rfl, fun K hK => ?_⟩
     have e9 : a.tmps[9]? = some (.pointer (some ⟨gM, 0, none⟩)) := xH_ ha rfl rfl
     replace ha := AZ.mk ha
     have BM := AZ.mk Q_BM
     have hc_ : w'.cell? ⟨gM, 0, none⟩ = some (.int .i64 m') := (bc BM.out 0).trans rfl
     refine Zg (w1 := w') (v := .int .i64 m') (by rfl) rfl (by go_simp; (try simp only [i64_w]); try rfl) ?_
     refine hK.out _ _ ⟨vA, vC, vR, vI, nb, m20_, (xI_ ha.out 5 hb_ rfl rfl rfl), Q_HB, Q_BC, Q_BD, Q_BF, Q_BZ, Q_BN, Q_BM, xB_ (hoff 20 rfl), xA_ (hoff 21 rfl), xA_ (hoff 20 rfl)⟩
    refine Za ?_ ?_
    ·rintro b a w' ⟨vA, vC, vR, vI, nb, m20_, ha, Q_HB, Q_BC, Q_BD, Q_BF, Q_BZ, Q_BN, Q_BM, Q_HO, Q_HO2, Q_X20_⟩ hb_ hon hoff
     refine ⟨_, rfl, fun K hK => ?_⟩
     have e46 := xG_ ha 4 rfl (hon 6 rfl) rfl rfl
     have e47 := xG_ ha 5 rfl (hon 7 rfl) rfl rfl
     replace ha := AZ.mk ha
     refine Zg (w1 := w') (v := .int .i64 (wrap64 (m * m'))) (by rfl) rfl (by go_simp; (try simp only [i64_w]); try rfl) ?_
     refine hK.out _ _ ⟨vA, vC, vR, vI, nb, m20_, (xI_ ha.out 6 hb_ rfl rfl rfl), Q_HB, Q_BC, Q_BD, Q_BF, Q_BZ, Q_BN, Q_BM, xB_ (hoff 20 rfl), xA_ (hoff 21 rfl), xA_ (hoff 20 rfl)⟩
    refine Za ?_ ?_
    ·rintro b a w' ⟨vA, vC, vR, vI, nb, m20_, ha, Q_HB, Q_BC, Q_BD, Q_BF, Q_BZ, Q_BN, Q_BM, Q_HO, Q_HO2, Q_X20_⟩ hb_ hon hoff
     refine ⟨_, rfl, fun K hK => ?_⟩
     have e49 : a.tmps[49]? = some (.pointer (some ⟨gC, 1, none⟩)) := xH_ ha rfl rfl
     replace ha := AZ.mk ha
     have BC := AZ.mk Q_BC
     have hc_ : w'.cell? ⟨gC, 1, none⟩ = some (.int .i64 st) := (bc BC.out 1).trans rfl
     refine Zg (w1 := w') (v := .int .i64 st) (by rfl) rfl (by go_simp; (try simp only [i64_w]); try rfl) ?_
     refine hK.out _ _ ⟨vA, vC, vR, vI, nb, m20_, (xI_ ha.out 7 hb_ rfl rfl rfl), Q_HB, Q_BC, Q_BD, Q_BF, Q_BZ, Q_BN, Q_BM, xB_ (hoff 20 rfl), xA_ (hoff 21 rfl), xA_ (hoff 20 rfl)⟩
    refine Za ?_ ?_
    ·rintro b a w' ⟨vA, vC, vR, vI, nb, m20_, ha, Q_HB, Q_BC, Q_BD, Q_BF, Q_BZ, Q_BN, Q_BM, Q_HO, Q_HO2, Q_X20_⟩ hb_ hon hoff
     refine ⟨_, rfl, fun K hK => ?_⟩
     have e8 : a.tmps[8]? = some (.pointer (some ⟨gN, 0, none⟩)) := xH_ ha rfl rfl
     replace ha := AZ.mk ha
     have BN := AZ.mk Q_BN
     have hc_ : w'.cell? ⟨gN, 0, none⟩ = some (.int .i64 (p2.length : Int)) := (bc BN.out 0).trans rfl
     refine Zg (w1 := w') (v := .int .i64 (p2.length : Int)) (by rfl) rfl (by go_simp; (try simp only [i64_w]); try rfl) ?_
     refine hK.out _ _ ⟨vA, vC, vR, vI, nb, m20_, (xI_ ha.out 8 hb_ rfl rfl rfl), Q_HB, Q_BC, Q_BD, Q_BF, Q_BZ, Q_BN, Q_BM, xB_ (hoff 20 rfl), xA_ (hoff 21 rfl), xA_ (hoff 20 rfl)⟩
    refine Za ?_ ?_
    ·rintro b a w' ⟨vA, vC, vR, vI, nb, m20_, ha, Q_HB, Q_BC, Q_BD, Q_BF, Q_BZ, Q_BN, Q_BM, Q_HO, Q_HO2, Q_X20_⟩ hb_ hon hoff
     refine ⟨_, rfl, fun K hK => ?_⟩
     have e50 := xG_ ha 7 rfl (hon 10 rfl) rfl rfl
     have e51 := xG_ ha 8 rfl (hon 11 rfl) rfl rfl
     replace ha := AZ.mk ha
     refine Zg (w1 := w') (v := .int .i64 (wrap64 (st * (p2.length : Int)))) (by rfl) rfl (by go_simp; (try simp only [i64_w]); try rfl) ?_
     refine hK.out _ _ ⟨vA, vC, vR, vI, nb, m20_, (xI_ ha.out 9 hb_ rfl rfl rfl), Q_HB, Q_BC, Q_BD, Q_BF, Q_BZ, Q_BN, Q_BM, xB_ (hoff 20 rfl), xA_ (hoff 21 rfl), xA_ (hoff 20 rfl)⟩
    refine Za ?_ ?_
    ·rintro b a w' ⟨vA, vC, vR, vI, nb, m20_, ha, Q_HB, Q_BC, Q_BD, Q_BF, Q_BZ, Q_BN, Q_BM, Q_HO, Q_HO2, Q_X20_⟩ hb_ hon hoff
     refine ⟨_, rfl, fun K hK => ?_⟩
     have e53 : a.tmps[53]? = some (.pointer (some ⟨gD, 1, none⟩)) := xH_ ha rfl rfl
     replace ha := AZ.mk ha
     have BD := AZ.mk Q_BD
     have hc_ : w'.cell? ⟨gD, 1, none⟩ = some (.int .i64 st') := (bc BD.out 1).trans rfl
     refine Zg (w1 := w') (v := .int .i64 st') (by rfl) rfl (by go_simp; (try simp only [i64_w]); try rfl) ?_
     refine hK.out _ _ ⟨vA, vC, vR, vI, nb, m20_, (xI_ ha.out 10 hb_ rfl rfl rfl), Q_HB, Q_BC, Q_BD, Q_BF, Q_BZ, Q_BN, Q_BM, xB_ (hoff 20 rfl), xA_ (hoff 21 rfl), xA_ (hoff 20 rfl)⟩
    refine Za ?_ ?_
    ·rintro b a w' ⟨vA, vC, vR, vI, nb, m20_, ha, Q_HB, Q_BC, Q_BD, Q_BF, Q_BZ, Q_BN, Q_BM, Q_HO, Q_HO2, Q_X20_⟩ hb_ hon hoff
     refine ⟨_, rfl, fun K hK => ?_⟩
     have e52 := xG_ ha 9 rfl (hon 12 rfl) rfl rfl
     have e54 := xG_ ha 10 rfl (hon 14 rfl) rfl rfl
     replace ha := AZ.mk ha
     refine Zg (w1 := w') (v := .int .i64 (wrap64 (wrap64 (st * (p2.length : Int)) + st'))) (by rfl) rfl (by go_simp; (try simp only [i64_w]); try rfl) ?_
     refine hK.out _ _ ⟨vA, vC, vR, vI, nb, m20_, (xI_ ha.out 11 hb_ rfl rfl rfl), Q_HB, Q_BC, Q_BD, Q_BF, Q_BZ, Q_BN, Q_BM, xB_ (hoff 20 rfl), xA_ (hoff 21 rfl), xA_ (hoff 20 rfl)⟩
    refine Za ?_ ?_
    ·rintro b a w' ⟨vA, vC, vR, vI, nb, m20_, ha, Q_HB, Q_BC, Q_BD, Q_BF, Q_BZ, Q_BN, Q_BM, Q_HO, Q_HO2, Q_X20_⟩ hb_ hon hoff
     refine ⟨_, rfl, fun K hK => ?_⟩
     have e44 := xG_ ha 3 rfl (hon 4 rfl) rfl rfl
     have e48 := xG_ ha 6 rfl (hon 8 rfl) rfl rfl
     have e55 := xG_ ha 11 rfl (hon 15 rfl) rfl rfl
     have e56 : a.tmps[56]? = some (.func (.func 110) #[] #[.pointer (some ⟨gF, 0, none⟩), .pointer (some ⟨gC, 0, none⟩), .pointer (some ⟨gN, 0, none⟩), .pointer (some ⟨gD, 0, none⟩)]) := xH_ ha rfl rfl
     have e57 : a.tmps[57]? = some (.func (.func 111) #[] #[.pointer (some ⟨gC, 0, none⟩), .pointer (some ⟨gN, 0, none⟩), .pointer (some ⟨gD, 0, none⟩), .pointer (some ⟨gM, 0, none⟩)]) := xH_ ha rfl rfl
     have e58 : a.tmps[58]? = some (.func (.func 112) #[] #[.pointer (some ⟨gM, 0, none⟩), .pointer (some ⟨gC, 0, none⟩), .pointer (some ⟨gN, 0, none⟩), .pointer (some ⟨gD, 0, none⟩)]) := xH_ ha rfl rfl
     have e59 : a.tmps[59]? = some (.func (.func 113) #[] #[.pointer (some ⟨gC, 0, none⟩), .pointer (some ⟨gN, 0, none⟩), .pointer (some ⟨gD, 0, none⟩)]) := xH_ ha rfl rfl
     replace ha := AZ.mk ha
     have HB := AZ.mk Q_HB
     have BC := AZ.mk Q_BC
     have BD := AZ.mk Q_BD
     have BF := AZ.mk Q_BF
     have BZ := AZ.mk (Q_BZ (hoff 21 rfl))
     have BN := AZ.mk Q_BN
     have BM := AZ.mk Q_BM
     refine goes_ Try.func29 (by kernel_rfl) rfl #[.int .i64 (wrap64 ((l2.length : Int) * (p2.length : Int))), .int .i64 (wrap64 (m * m')), .int .i64 (wrap64 (wrap64 (st * (p2.length : Int)) + st')), .func (.func 110) #[] #[.pointer (some ⟨gF, 0, none⟩), .pointer (some ⟨gC, 0, none⟩), .pointer (some ⟨gN, 0, none⟩), .pointer (some ⟨gD, 0, none⟩)], .func (.func 111) #[] #[.pointer (some ⟨gC, 0, none⟩), .pointer (some ⟨gN, 0, none⟩), .pointer (some ⟨gD, 0, none⟩), .pointer (some ⟨gM, 0, none⟩)], .func (.func 112) #[] #[.pointer (some ⟨gM, 0, none⟩), .pointer (some ⟨gC, 0, none⟩), .pointer (some ⟨gN, 0, none⟩), .pointer (some ⟨gD, 0, none⟩)], .func (.func 113) #[] #[.pointer (some ⟨gC, 0, none⟩), .pointer (some ⟨gN, 0, none⟩), .pointer (some ⟨gD, 0, none⟩)]] (by rfl) rfl rfl (by simp only [mA, mB, mC, Zt e44, Zt e48, Zt e55, Zt e56, Zt e57, Zt e58, Zt e59]) ?_
     rw [EN.out, EM.out, ES.out]
     refine (built_walk n k s0 _ HN.out HK.out acc call back inner 110 111 112 113 _ _ _ _ #[.pointer (some ⟨gF, 0, none⟩), .pointer (some ⟨gC, 0, none⟩), .pointer (some ⟨gN, 0, none⟩), .pointer (some ⟨gD, 0, none⟩)] #[.pointer (some ⟨gC, 0, none⟩), .pointer (some ⟨gN, 0, none⟩), .pointer (some ⟨gD, 0, none⟩), .pointer (some ⟨gM, 0, none⟩)] #[.pointer (some ⟨gM, 0, none⟩), .pointer (some ⟨gC, 0, none⟩), .pointer (some ⟨gN, 0, none⟩), .pointer (some ⟨gD, 0, none⟩)] #[.pointer (some ⟨gC, 0, none⟩), .pointer (some ⟨gN, 0, none⟩), .pointer (some ⟨gD, 0, none⟩)] Try.func110 (by kernel_rfl) rfl Try.func111 (by kernel_rfl) rfl Try.func112 (by kernel_rfl) rfl Try.func113 (by kernel_rfl) rfl ?HA ?HC ?HR ?HI).mono ?_
     case HA =>
      intro s W hs hbW
      exact PA.out s W gF gC gN gD hs (HC.out.below (pT HB.out hbW)) (HD.out.below (pT HB.out hbW)) (bb_ BF.out hbW) (bb_ BC.out hbW) (bb_ BN.out hbW) (bb_ BD.out hbW)
     case HC =>
      intro s q W hs hq hbW
      exact PC.out s q W gC gN gD gM hs hq (HC.out.below (pT HB.out hbW)) (HD.out.below (pT HB.out hbW)) (bb_ BC.out hbW) (bb_ BN.out hbW) (bb_ BD.out hbW) (bb_ BM.out hbW)
     case HR =>
      intro s q x W hs hq hx hbW
      exact PR.out s q x W gM gC gN gD hs hq hx (HC.out.below (pT HB.out hbW)) (HD.out.below (pT HB.out hbW)) (bb_ BM.out hbW) (bb_ BC.out hbW) (bb_ BN.out hbW) (bb_ BD.out hbW)
     case HI =>
      intro s q W hs hq hbW
      exact PI.out s q W gC gN gD hs hq (HC.out.below (pT HB.out hbW)) (HD.out.below (pT HB.out hbW)) (bb_ BC.out hbW) (bb_ BN.out hbW) (bb_ BD.out hbW)
     rintro e w_ ⟨v1_, v2_, v3_, v4_, rfl, hO, hb⟩
     refine ⟨_, rfl, ?_⟩
     refine hK.out _ _ ⟨v1_, v2_, v3_, v4_, (World.heap w').size, (.agg #[.int .i64 (k : Int), .int .i64 s0, v1_, v2_, v3_, v4_]), (xI_ ha.out 12 hb_ rfl rfl rfl), pT HB.out hb, bb_ BC.out hb, bb_ BD.out hb, bb_ BF.out hb, fun _ => bb_ BZ.out hb, bb_ BN.out hb, bb_ BM.out hb, fun _ _ => ⟨hO, Zv BZ.out⟩, xA_ (hoff 21 rfl), fun _ => rfl⟩
    refine Za ?_ ?_
    ·rintro b a w' ⟨vA, vC, vR, vI, nb, m20_, ha, Q_HB, Q_BC, Q_BD, Q_BF, Q_BZ, Q_BN, Q_BM, Q_HO, Q_HO2, Q_X20_⟩ hb_ hon hoff
     refine ⟨_, rfl, fun K hK => ?_⟩
     have e6 : a.tmps[6]? = some (.pointer (some ⟨gZ, 0, none⟩)) := xH_ ha rfl rfl
     have e60 := xG_ ha 12 rfl (hon 20 rfl) rfl rfl
     rw [Q_X20_ (hon 20 rfl)] at e60
     replace ha := AZ.mk ha
     have HB := AZ.mk Q_HB
     have BC := AZ.mk Q_BC
     have BD := AZ.mk Q_BD
     have BF := AZ.mk Q_BF
     have BZ := AZ.mk (Q_BZ hb_)
     have BN := AZ.mk Q_BN
     have BM := AZ.mk Q_BM
     have HO := AZ.mk (Q_HO (hon 20 rfl) hb_)
     obtain ⟨hO_, hn_⟩ := HO.out
     refine store27_step (by rfl) rfl 6 60 rfl (g := gZ) (old := cZ) (cs := cellsI (k : Int) s0 vA vC vR vI) (Zt e6) (Zt e60) BZ.out rfl rfl (cellsI_one _ _ (Reads.own hO_)) ?_
     intro w_ hbx hB hfar
     refine hK.out _ _ ⟨vA, vC, vR, vI, nb, m20_, (xJ_ ha.out rfl), (hB _ _ HB.out GZ.out), ((hfar _ NC.out).trans BC.out), ((hfar _ ND.out).trans BD.out), ((hfar _ NF.out).trans BF.out), xD_ (Yd b 21), ((hfar _ NN.out).trans BN.out), ((hfar _ NM.out).trans BM.out), xC_ (Yd b 21), fun _ => ⟨own_far hO_ (fun j hj => hfar j (by omega)) (by have := GZ.out; omega), hbx⟩, Q_X20_⟩
    refine Za ?_ ?_
    ·rintro b a w' ⟨vA, vC, vR, vI, nb, m20_, ha, Q_HB, Q_BC, Q_BD, Q_BF, Q_BZ, Q_BN, Q_BM, Q_HO, Q_HO2, Q_X20_⟩ hb_ hon hoff
     refine ⟨_, rfl, fun K hK => ?_⟩
     replace ha := AZ.mk ha
     refine Zg (w1 := w') (v := .int .i64 0) (by rfl) rfl (by go_simp; (try simp only [i64_w]); try rfl) ?_
     refine hK.out _ _ ⟨vA, vC, vR, vI, nb, m20_, (xI_ ha.out 13 hb_ rfl rfl rfl), Q_HB, Q_BC, Q_BD, Q_BF, xD_ (hon 21 rfl), Q_BN, Q_BM, xC_ (hon 21 rfl), Q_HO2, Q_X20_⟩
    exact steps_nil
   ·rintro b a w' hall ⟨vA, vC, vR, vI, nb, m20_, ha, Q_HB, Q_BC, Q_BD, Q_BF, Q_BZ, Q_BN, Q_BM, Q_HO, Q_HO2, Q_X20_⟩
    clear BC BD BF BM BN BZ HB
    have hb1_ := hall 1 (by kernel_rfl)
    have hb2_ := hall 2 (by kernel_rfl)
    have hb3_ := hall 3 (by kernel_rfl)
    have hb4_ := hall 4 (by kernel_rfl)
    have hb6_ := hall 6 (by kernel_rfl)
    have hb7_ := hall 7 (by kernel_rfl)
    have hb8_ := hall 8 (by kernel_rfl)
    have hb10_ := hall 10 (by kernel_rfl)
    have hb11_ := hall 11 (by kernel_rfl)
    have hb12_ := hall 12 (by kernel_rfl)
    have hb14_ := hall 14 (by kernel_rfl)
    have hb15_ := hall 15 (by kernel_rfl)
    have hb20_ := hall 20 (by kernel_rfl)
    have hb21_ := hall 21 (by kernel_rfl)
    have hb22_ := hall 22 (by kernel_rfl)
    subst ha
    obtain rfl := Q_X20_ hb20_
    simp only [Zz, hb1_, hb2_, hb3_, hb4_, hb6_, hb7_, hb8_, hb10_, hb11_, hb12_, hb14_, hb15_, hb20_, hb21_, hb22_, if_true, Act.put, sA, sB, sC]
    have HB := AZ.mk Q_HB
    clear Q_HB
    have BC := AZ.mk Q_BC
    clear Q_BC
    have BD := AZ.mk Q_BD
    clear Q_BD
    have BF := AZ.mk Q_BF
    clear Q_BF
    clear Q_BZ
    have BN := AZ.mk Q_BN
    clear Q_BN
    have BM := AZ.mk Q_BM
    clear Q_BM
    clear Q_HO
    have HO2 := AZ.mk (Q_HO2 hb21_)
    clear Q_HO2
    clear hall hb1_ hb2_ hb3_ hb4_ hb6_ hb7_ hb8_ hb10_ hb11_ hb12_ hb14_ hb15_ hb20_ hb21_ hb22_
    obtain ⟨hO, hbx⟩ := HO2.out
    go_wp2
    refine bodyPost_ret (results_ct rfl _ _ gZ 27 (cellsI (k : Int) s0 vA vC vR vI) (0, 0) _ rfl hbx Try.underlying27 rfl (by kernel_rfl)) rfl ?_
    exact HP.out _ _ _ _ _ hO HB.out
theorem paired_bad1 (hC : CH w A2 c2 l2 A3 c3 l3 A4 c4 l4 A5 c5 l5) (hD : CH w B2 d2 p2 B3 d3 p3 B4 d4 p4 B5 d5 p5) (hv : impl_ValidChecker.f kv m st l2 l3 l4 l5 = some false) :
  Calls Try.prog 81 #[.agg #[.int .i64 m, .int .i64 st, .slice A2 l2.length c2, .slice A3 l3.length c3, .slice A4 l4.length c4, .slice A5 l5.length c5], .agg #[.int .i64 m', .int .i64 st', .slice B2 p2.length d2, .slice B3 p3.length d3, .slice B4 p4.length d4, .slice B5 p5.length d5], .func (.func ff) #[] #[]] w fun e w' => ∃ vA vC vR vI : Value, e = .returned (.tuple #[.agg #[.int .i64 0, .int .i64 0, vA, vC, vR, vI], .int .i64 1]) ∧ OwnC w' w.heap.size vA vC vR vI [] [] [] [] ∧ Below w.heap.size w w' :=
 paired_all kv m st A2 c2 l2 A3 c3 l3 A4 c4 l4 A5 c5 l5 m' st' B2 d2 p2 B3 d3 p3 B4 d4 p4 B5 d5 p5 ff w hC hD _ (Or.inl ⟨hv, fun _ hb => ⟨nilV, nilV, nilV, nilV, rfl, own_nil' _ _, hb⟩⟩)
theorem paired_bad2 (hC : CH w A2 c2 l2 A3 c3 l3 A4 c4 l4 A5 c5 l5) (hD : CH w B2 d2 p2 B3 d3 p3 B4 d4 p4 B5 d5 p5) (hv : impl_ValidChecker.f kv m st l2 l3 l4 l5 = some true) (hu : impl_ValidChecker.f kv m' st' p2 p3 p4 p5 = some false) :
  Calls Try.prog 81 #[.agg #[.int .i64 m, .int .i64 st, .slice A2 l2.length c2, .slice A3 l3.length c3, .slice A4 l4.length c4, .slice A5 l5.length c5], .agg #[.int .i64 m', .int .i64 st', .slice B2 p2.length d2, .slice B3 p3.length d3, .slice B4 p4.length d4, .slice B5 p5.length d5], .func (.func ff) #[] #[]] w fun e w' => ∃ vA vC vR vI : Value, e = .returned (.tuple #[.agg #[.int .i64 0, .int .i64 0, vA, vC, vR, vI], .int .i64 1]) ∧ OwnC w' w.heap.size vA vC vR vI [] [] [] [] ∧ Below w.heap.size w w' :=
 paired_all kv m st A2 c2 l2 A3 c3 l3 A4 c4 l4 A5 c5 l5 m' st' B2 d2 p2 B3 d3 p3 B4 d4 p4 B5 d5 p5 ff w hC hD _ (Or.inr ⟨hv, Or.inl ⟨hu, fun _ hb => ⟨nilV, nilV, nilV, nilV, rfl, own_nil' _ _, hb⟩⟩⟩)
theorem paired_lim1 (hC : CH w A2 c2 l2 A3 c3 l3 A4 c4 l4 A5 c5 l5) (hD : CH w B2 d2 p2 B3 d3 p3 B4 d4 p4 B5 d5 p5) (hv : impl_ValidChecker.f kv m st l2 l3 l4 l5 = some true) (hu : impl_ValidChecker.f kv m' st' p2 p3 p4 p5 = some true) (hq : 40 < (wrap64 ((l2.length : Int) * (p2.length : Int)))) :
  Calls Try.prog 81 #[.agg #[.int .i64 m, .int .i64 st, .slice A2 l2.length c2, .slice A3 l3.length c3, .slice A4 l4.length c4, .slice A5 l5.length c5], .agg #[.int .i64 m', .int .i64 st', .slice B2 p2.length d2, .slice B3 p3.length d3, .slice B4 p4.length d4, .slice B5 p5.length d5], .func (.func ff) #[] #[]] w fun e w' => ∃ vA vC vR vI : Value, e = .returned (.tuple #[.agg #[.int .i64 0, .int .i64 0, vA, vC, vR, vI], .int .i64 3]) ∧ OwnC w' w.heap.size vA vC vR vI [] [] [] [] ∧ Below w.heap.size w w' :=
 paired_all kv m st A2 c2 l2 A3 c3 l3 A4 c4 l4 A5 c5 l5 m' st' B2 d2 p2 B3 d3 p3 B4 d4 p4 B5 d5 p5 ff w hC hD _ (Or.inr ⟨hv, Or.inr ⟨hu, Or.inl ⟨hq, fun _ hb => ⟨nilV, nilV, nilV, nilV, rfl, own_nil' _ _, hb⟩⟩⟩⟩)
theorem paired_lim2 (hC : CH w A2 c2 l2 A3 c3 l3 A4 c4 l4 A5 c5 l5) (hD : CH w B2 d2 p2 B3 d3 p3 B4 d4 p4 B5 d5 p5) (hv : impl_ValidChecker.f kv m st l2 l3 l4 l5 = some true) (hu : impl_ValidChecker.f kv m' st' p2 p3 p4 p5 = some true) (hq : ¬ 40 < (wrap64 ((l2.length : Int) * (p2.length : Int)))) (hr : 80 < (wrap64 (m * m'))) :
  Calls Try.prog 81 #[.agg #[.int .i64 m, .int .i64 st, .slice A2 l2.length c2, .slice A3 l3.length c3, .slice A4 l4.length c4, .slice A5 l5.length c5], .agg #[.int .i64 m', .int .i64 st', .slice B2 p2.length d2, .slice B3 p3.length d3, .slice B4 p4.length d4, .slice B5 p5.length d5], .func (.func ff) #[] #[]] w fun e w' => ∃ vA vC vR vI : Value, e = .returned (.tuple #[.agg #[.int .i64 0, .int .i64 0, vA, vC, vR, vI], .int .i64 3]) ∧ OwnC w' w.heap.size vA vC vR vI [] [] [] [] ∧ Below w.heap.size w w' :=
 paired_all kv m st A2 c2 l2 A3 c3 l3 A4 c4 l4 A5 c5 l5 m' st' B2 d2 p2 B3 d3 p3 B4 d4 p4 B5 d5 p5 ff w hC hD _ (Or.inr ⟨hv, Or.inr ⟨hu, Or.inr ⟨hq, Or.inl ⟨hr, fun _ hb => ⟨nilV, nilV, nilV, nilV, rfl, own_nil' _ _, hb⟩⟩⟩⟩⟩)
theorem paired_ok (hC : CH w A2 c2 l2 A3 c3 l3 A4 c4 l4 A5 c5 l5) (hD : CH w B2 d2 p2 B3 d3 p3 B4 d4 p4 B5 d5 p5) (hv : impl_ValidChecker.f kv m st l2 l3 l4 l5 = some true) (hu : impl_ValidChecker.f kv m' st' p2 p3 p4 p5 = some true) (hq : ¬ 40 < (wrap64 ((l2.length : Int) * (p2.length : Int)))) (hr : ¬ 80 < (wrap64 (m * m')))
  (n k : Nat) (s0 : Int) (hn : n ≤ 2000) (hk : k ≤ 7000) (en : (wrap64 ((l2.length : Int) * (p2.length : Int))) = (n : Int)) (em : (wrap64 (m * m')) = (k : Int)) (es : (wrap64 (wrap64 (st * (p2.length : Int)) + st')) = s0)
  (acc : Nat → Bool) (call : Nat → Nat → S47) (back : Nat → Nat → Nat → Int) (inner : Nat → Nat → Int)
  (hpa : ∀ (s : Nat) (W : World) (gF gC gN gD : Nat), s < n → CH W A2 c2 l2 A3 c3 l3 A4 c4 l4 A5 c5 l5 → CH W B2 d2 p2 B3 d3 p3 B4 d4 p4 B5 d5 p5 → W.heap[gF]? = some (.cells #[.func (.func ff) #[] #[]] 81 (0, 0)) → W.heap[gC]? = some (.cells #[.int .i64 m, .int .i64 st, .slice A2 l2.length c2, .slice A3 l3.length c3, .slice A4 l4.length c4, .slice A5 l5.length c5] 27 (0, 0)) → W.heap[gN]? = some (.cells #[.int .i64 (p2.length : Int)] 2 (0, 0)) → W.heap[gD]? = some (.cells #[.int .i64 m', .int .i64 st', .slice B2 p2.length d2, .slice B3 p3.length d3, .slice B4 p4.length d4, .slice B5 p5.length d5] 27 (0, 0)) → Calls Try.prog 110 #[.int .i64 (s : Int), .pointer (some ⟨gF, 0, none⟩), .pointer (some ⟨gC, 0, none⟩), .pointer (some ⟨gN, 0, none⟩), .pointer (some ⟨gD, 0, none⟩)] W fun e W' => e = .returned (.bool (acc s)) ∧ Below W.heap.size W W')
  (hpc : ∀ (s q : Nat) (W : World) (gC gN gD gM : Nat), s < n → q < 2 → CH W A2 c2 l2 A3 c3 l3 A4 c4 l4 A5 c5 l5 → CH W B2 d2 p2 B3 d3 p3 B4 d4 p4 B5 d5 p5 → W.heap[gC]? = some (.cells #[.int .i64 m, .int .i64 st, .slice A2 l2.length c2, .slice A3 l3.length c3, .slice A4 l4.length c4, .slice A5 l5.length c5] 27 (0, 0)) → W.heap[gN]? = some (.cells #[.int .i64 (p2.length : Int)] 2 (0, 0)) → W.heap[gD]? = some (.cells #[.int .i64 m', .int .i64 st', .slice B2 p2.length d2, .slice B3 p3.length d3, .slice B4 p4.length d4, .slice B5 p5.length d5] 27 (0, 0)) → W.heap[gM]? = some (.cells #[.int .i64 m'] 2 (0, 0)) → Calls Try.prog 111 #[.int .i64 (s : Int), .int .i64 (q : Int), .pointer (some ⟨gC, 0, none⟩), .pointer (some ⟨gN, 0, none⟩), .pointer (some ⟨gD, 0, none⟩), .pointer (some ⟨gM, 0, none⟩)] W fun e W' => e = .returned (.agg #[.int .i64 (call s q).f0, .int .i64 (call s q).f1]) ∧ Below W.heap.size W W')
  (hpr : ∀ (s q x : Nat) (W : World) (gM gC gN gD : Nat), s < n → q < 2 → x < k + 1 → CH W A2 c2 l2 A3 c3 l3 A4 c4 l4 A5 c5 l5 → CH W B2 d2 p2 B3 d3 p3 B4 d4 p4 B5 d5 p5 → W.heap[gM]? = some (.cells #[.int .i64 m'] 2 (0, 0)) → W.heap[gC]? = some (.cells #[.int .i64 m, .int .i64 st, .slice A2 l2.length c2, .slice A3 l3.length c3, .slice A4 l4.length c4, .slice A5 l5.length c5] 27 (0, 0)) → W.heap[gN]? = some (.cells #[.int .i64 (p2.length : Int)] 2 (0, 0)) → W.heap[gD]? = some (.cells #[.int .i64 m', .int .i64 st', .slice B2 p2.length d2, .slice B3 p3.length d3, .slice B4 p4.length d4, .slice B5 p5.length d5] 27 (0, 0)) → Calls Try.prog 112 #[.int .i64 (s : Int), .int .i64 (q : Int), .int .i64 (x : Int), .pointer (some ⟨gM, 0, none⟩), .pointer (some ⟨gC, 0, none⟩), .pointer (some ⟨gN, 0, none⟩), .pointer (some ⟨gD, 0, none⟩)] W fun e W' => e = .returned (.int .i64 (back s q x)) ∧ Below W.heap.size W W')
  (hpi : ∀ (s q : Nat) (W : World) (gC gN gD : Nat), s < n → q < 2 → CH W A2 c2 l2 A3 c3 l3 A4 c4 l4 A5 c5 l5 → CH W B2 d2 p2 B3 d3 p3 B4 d4 p4 B5 d5 p5 → W.heap[gC]? = some (.cells #[.int .i64 m, .int .i64 st, .slice A2 l2.length c2, .slice A3 l3.length c3, .slice A4 l4.length c4, .slice A5 l5.length c5] 27 (0, 0)) → W.heap[gN]? = some (.cells #[.int .i64 (p2.length : Int)] 2 (0, 0)) → W.heap[gD]? = some (.cells #[.int .i64 m', .int .i64 st', .slice B2 p2.length d2, .slice B3 p3.length d3, .slice B4 p4.length d4, .slice B5 p5.length d5] 27 (0, 0)) → Calls Try.prog 113 #[.int .i64 (s : Int), .int .i64 (q : Int), .pointer (some ⟨gC, 0, none⟩), .pointer (some ⟨gN, 0, none⟩), .pointer (some ⟨gD, 0, none⟩)] W fun e W' => e = .returned (.int .i64 (inner s q)) ∧ Below W.heap.size W W') :
  Calls Try.prog 81 #[.agg #[.int .i64 m, .int .i64 st, .slice A2 l2.length c2, .slice A3 l3.length c3, .slice A4 l4.length c4, .slice A5 l5.length c5], .agg #[.int .i64 m', .int .i64 st', .slice B2 p2.length d2, .slice B3 p3.length d3, .slice B4 p4.length d4, .slice B5 p5.length d5], .func (.func ff) #[] #[]] w fun e w' => ∃ vA vC vR vI : Value, e = .returned (.tuple #[.agg #[.int .i64 (k : Int), .int .i64 s0, vA, vC, vR, vI], .int .i64 0]) ∧ OwnC w' w.heap.size vA vC vR vI (LAs acc n) (LCs call n) (LRs k back n) (LIs inner n) ∧ Below w.heap.size w w' :=
 paired_all kv m st A2 c2 l2 A3 c3 l3 A4 c4 l4 A5 c5 l5 m' st' B2 d2 p2 B3 d3 p3 B4 d4 p4 B5 d5 p5 ff w hC hD _ (Or.inr ⟨hv, Or.inr ⟨hu, Or.inr ⟨hq, Or.inr ⟨hr, n, k, s0, acc, call, back, inner, ⟨hn, hk, en, em, es⟩, hpa, hpc, hpr, hpi, fun _ vA vC vR vI hO hb => ⟨vA, vC, vR, vI, rfl, hO, hb⟩⟩⟩⟩⟩)
end
end Go.Proofs.Ytepkfigcnnfoaaa.P
namespace Go.Proofs.Ytepkfigcnnfoaaa.P
open Go.RowKit Go.Proofs.YtepkfigcnnfoaaaW.PrintWords Go.Proofs.YtepkfigcnnfoaaaW.PrintLast Go.Proofs.YtepkfigcnnfoaaaW.PrintMore
attribute [local go_sem] Zn Zp Zw Zx Zj Zk Zq Zr
def spec_l00In.f (a0 : Int) (a1 : Int) (a2 : Int) : Option (Bool) := if a0 ≥ a1 then (some (decide (a0 ≤ a2))) else (some false)
theorem spec_l00In.calls (a0 : Int) (a1 : Int) (a2 : Int) (r : Bool) (w : World) (h : spec_l00In.f a0 a1 a2 = some r) :
  Calls Try.prog 50 #[.int .i64 a0, .int .i64 a1, .int .i64 a2] w fun e w' => e = .returned (.bool r) ∧ Drawn0 w w' := by
 have H : (if a0 ≥ a1 then (some (decide (a0 ≤ a2))) else (some false)) = some r := h
 clear h
 by_cases c4 : a0 ≥ a1
 ·rw [if_pos c4] at H
  have c4b0 : decide (a1 ≤ a0) = true := dT c4
  clear c4
  obtain rfl := oJ H
  go_enter Try.func50, Try.ntmps50
  go_wp2
  go_ret
  exact ⟨by first | rfl | (simp; done) | (simp [*]; done), by repeat (first | exact Drawn0.refl _ | apply Drawn0.step)⟩
 rw [if_neg c4] at H
 have c4b0 : decide (a1 ≤ a0) = false := dF c4
 clear c4
 obtain rfl := oJ H
 go_enter Try.func50, Try.ntmps50
 go_wp2
 go_ret
 exact ⟨by first | rfl | (simp; done) | (simp [*]; done), by repeat (first | exact Drawn0.refl _ | apply Drawn0.step)⟩
attribute [local go_sem] Zn Zp Zw Zx Zj Zk Zq Zr
def spec_l02List.l0 : Nat → List Int → Int → Int → Option (Bool)
 | 0, _, _, _ => none
 | k + 1, x0, x2, x7 => if x7 < (x0.length : Int) then (if 0 ≤ x7 then ((spec_l00In.f (rd x0 x7) 0 (wrap64 (x2 - 1))).bind fun t326 => (if t326 = true then (spec_l02List.l0 k x0 x2 (wrap64 (x7 + 1))) else (some false))) else (none)) else (some true)
def spec_l02List.f (k : Nat) (l0 : List Int) (a1 : Int) (a2 : Int) : Option (Bool) := if (l0.length : Int) = a1 then (spec_l02List.l0 k l0 a2 0) else (some false)
theorem spec_l02List.calls (k : Nat) (A0 : Option Addr) (c0 : Nat) (l0 : List Int) (a1 : Int) (a2 : Int) (r : Bool) (w : World) (hr0 : Kd.C (Kd.int .i64) w A0 l0.length l0) (hc0 : l0.length ≤ c0) (h : spec_l02List.f k l0 a1 a2 = some r) :
  Calls Try.prog 93 #[.slice A0 l0.length c0, .int .i64 a1, .int .i64 a2] w fun e w' => e = .returned (.bool r) ∧ Drawn0 w w' := by
 have HR0 := AZ.mk hr0
 have HC0 := AZ.mk hc0
 clear hr0 hc0
 have H : (if (l0.length : Int) = a1 then (spec_l02List.l0 k l0 a2 0) else (some false)) = some r := h
 clear h
 by_cases c4 : (l0.length : Int) = a1
 rotate_left
 ·rw [if_neg c4] at H
  have c4b0 : ((l0.length : Int) == a1) = false := beq_eq_false_iff_ne.mpr c4
  have c4b1 : ((l0.length : Int) != a1) = true := bne_iff_ne.mpr c4
  obtain rfl := oJ H
  go_enter Try.func93, Try.ntmps93
  go_wp2
  go_ret
  exact ⟨by first | rfl | (simp; done) | (simp [*]; done), by repeat (first | exact Drawn0.refl _ | apply Drawn0.step)⟩
 rw [if_pos c4] at H
 have c4b0 : ((l0.length : Int) == a1) = true := beq_iff_eq.mpr c4
 have c4b1 : ((l0.length : Int) != a1) = false := bne_eq_false_iff_eq.mpr c4
 clear c4
 have H' := AZ.mk H
 clear H
 go_enter Try.func93, Try.ntmps93
 go_wp2
 go_loopg [7] k (fun kq v7 w' => ∃ (x7_1 : Int), v7 = .int .i64 x7_1 ∧ AZ (spec_l02List.l0 kq l0 a2 x7_1 = some r) ∧ AZ (kq ≤ k) ∧ Drawn0 w w')
 case atStart => exact ⟨(0), (by first | rfl | (simp; done) | (simp [*]; done)), H', ⟨Nat.le_refl _⟩, by repeat (first | exact Drawn0.refl _ | apply Drawn0.step)⟩
 case round =>
  clear H'
  try clear p2
  try clear c4
  try clear c4b0
  try clear c4b1
  obtain ⟨x7_1, rfl, HA, HK1, ⟨m1, rfl⟩⟩ := hrel
  cases gk with
  | zero => exact absurd HA.out (by simp [spec_l02List.l0])
  | succ k1 =>
   have H := HA.out
   clear HA
   simp only [spec_l02List.l0] at H
   by_cases c5 : x7_1 < (l0.length : Int)
   rotate_left
   ·rw [if_neg c5] at H
    have c5b0 : decide (x7_1 < (l0.length : Int)) = false := dF c5
    clear c5
    obtain rfl := oJ H
    go_wp2
    go_ret
    exact ⟨by first | rfl | (simp; done) | (simp [*]; done), by repeat (first | exact Drawn0.refl _ | apply Drawn0.step)⟩
   rw [if_pos c5] at H
   have c5b0 : decide (x7_1 < (l0.length : Int)) = true := dT c5
   clear c5
   by_cases c6 : 0 ≤ x7_1
   rotate_left
   ·rw [if_neg c6] at H
    exact absurd H (by simp)
   rw [if_pos c6] at H
   have c6b0 : decide (0 ≤ x7_1) = true := dT c6
   clear c6
   replace H := Option.bind_eq_some_iff.mp H
   obtain ⟨t326, A70, H⟩ := H
   replace H : (if t326 = true then (spec_l02List.l0 k1 l0 a2 (wrap64 (x7_1 + 1))) else (some false)) = some r := H
   have A7 := AZ.mk A70
   clear A70
   by_cases c8 : t326 = true
   rotate_left
   ·replace c8 := Bool.eq_false_iff.mpr c8
    subst c8
    have H1 : (some false) = some r := by rw [if_neg (show ¬ (false = true) by decide)] at H; exact H
    clear H
    have H := H1
    clear H1
    obtain rfl := oJ H
    have p325 : 0 ≤ (x7_1 : Int) := oT (by first | (with_reducible assumption) | assumption)
    have q325 : x7_1 < (l0.length : Int) := oT (by first | (with_reducible assumption) | assumption)
    obtain ⟨ad325, e325, hx325_0⟩ := Kd.at_int HR0.out x7_1 p325 q325
    cases e325
    replace p325 := eq_true p325
    replace q325 := eq_true q325
    go_wp2_with (first | ((with_reducible refine gate_callee (f := 50) rfl ?_); refine Zi (some 24) rfl rfl Try.func50 (by kernel_rfl) rfl #[.int .i64 (rd l0 x7_1), .int .i64 0, .int .i64 (wrap64 (a2 - 1))] rfl (by (try simp only [mA, mB, mC]); first | done | rfl | (simp only [lD, lT]; rfl)) ?_; (with_reducible refine (spec_l00In.calls (rd l0 x7_1) 0 (wrap64 (a2 - 1)) false _ A7.out).mono ?_); rintro e w' ⟨rfl, ⟨nd, rfl⟩⟩; refine ⟨_, rfl, ?_⟩))
    go_ret
    exact ⟨by first | rfl | (simp; done) | (simp [*]; done), by repeat (first | exact Drawn0.refl _ | apply Drawn0.step)⟩
   subst c8
   have H1 : (spec_l02List.l0 k1 l0 a2 (wrap64 (x7_1 + 1))) = some r := by rw [if_pos rfl] at H; exact H
   clear H
   have H := H1
   clear H1
   have H' := AZ.mk H
   clear H
   have p325 : 0 ≤ (x7_1 : Int) := oT (by first | (with_reducible assumption) | assumption)
   have q325 : x7_1 < (l0.length : Int) := oT (by first | (with_reducible assumption) | assumption)
   obtain ⟨ad325, e325, hx325_0⟩ := Kd.at_int HR0.out x7_1 p325 q325
   cases e325
   replace p325 := eq_true p325
   replace q325 := eq_true q325
   go_wp2_with (first | ((with_reducible refine gate_callee (f := 50) rfl ?_); refine Zi (some 24) rfl rfl Try.func50 (by kernel_rfl) rfl #[.int .i64 (rd l0 x7_1), .int .i64 0, .int .i64 (wrap64 (a2 - 1))] rfl (by (try simp only [mA, mB, mC]); first | done | rfl | (simp only [lD, lT]; rfl)) ?_; (with_reducible refine (spec_l00In.calls (rd l0 x7_1) 0 (wrap64 (a2 - 1)) true _ A7.out).mono ?_); rintro e w' ⟨rfl, ⟨nd, rfl⟩⟩; refine ⟨_, rfl, ?_⟩))
   go_roundg k1
   case measure => have := HK1.out; omega
   case rel => exact ⟨(wrap64 (x7_1 + 1)), (by first | rfl | (simp; done) | (simp [*]; done)), H', ⟨by have := HK1.out; omega⟩, by repeat (first | exact Drawn0.refl _ | apply Drawn0.step)⟩
attribute [local go_sem] Zn Zp Zw Zx Zj Zk Zq Zr
mutual
def spec_l02Ok.j0 : Nat → Int → Bool → Int → Int → List Bool → List (List (S47)) → List (List (List Int)) → List (List Int) → Option (Bool)
 | 0, _, _, _, _, _, _, _, _ => none
 | k + 1, x3, x58, x1000, x1001, x1002, x1003, x1004, x1005 => if x58 = true then (some false) else (spec_l02Ok.l0 k x3 0 x1000 x1001 x1002 x1003 x1004 x1005)
def spec_l02Ok.l0 : Nat → Int → Int → Int → Int → List Bool → List (List (S47)) → List (List (List Int)) → List (List Int) → Option (Bool)
 | 0, _, _, _, _, _, _, _, _ => none
 | k + 1, x3, x4, x1000, x1001, x1002, x1003, x1004, x1005 => if x4 < x3 then (if 0 ≤ x4 then (if x4 < (x1003.length : Int) then (if ((Zd x1003 x4).length : Int) = 2 then (if x4 < (x1004.length : Int) then (if ((rd_L5 x1004 x4).length : Int) = 2 then (if x4 < (x1005.length : Int) then ((spec_l02List.f k (rd_L4 x1005 x4) 2 x3).bind fun t333 => (spec_l02Ok.j2 k x3 x4 (!t333) x1000 x1001 x1002 x1003 x1004 x1005)) else (none)) else (spec_l02Ok.j2 k x3 x4 true x1000 x1001 x1002 x1003 x1004 x1005)) else (none)) else (spec_l02Ok.j2 k x3 x4 true x1000 x1001 x1002 x1003 x1004 x1005)) else (none)) else (none)) else (some true)
def spec_l02Ok.j2 : Nat → Int → Int → Bool → Int → Int → List Bool → List (List (S47)) → List (List (List Int)) → List (List Int) → Option (Bool)
 | 0, _, _, _, _, _, _, _, _, _ => none
 | k + 1, x3, x4, x95, x1000, x1001, x1002, x1003, x1004, x1005 => if x95 = true then (some false) else (spec_l02Ok.l1 k x3 x4 0 x1000 x1001 x1002 x1003 x1004 x1005)
def spec_l02Ok.l1 : Nat → Int → Int → Int → Int → Int → List Bool → List (List (S47)) → List (List (List Int)) → List (List Int) → Option (Bool)
 | 0, _, _, _, _, _, _, _, _, _ => none
 | k + 1, x3, x4, x5, x1000, x1001, x1002, x1003, x1004, x1005 => if x5 < 2 then (if 0 ≤ x4 then (if x4 < (x1003.length : Int) then (if 0 ≤ x5 then (if x5 < ((Zd x1003 x4).length : Int) then ((spec_l00In.f ((Zb (Zd x1003 x4) x5).f0) 0 (wrap64 (x3 - 1))).bind fun t336 => (if t336 = true then ((spec_l00In.f ((Zb (Zd x1003 x4) x5).f1) 0 (wrap64 (x1000 - 1))).bind fun t339 => (if t339 = true then (if x4 < (x1004.length : Int) then (if x5 < ((rd_L5 x1004 x4).length : Int) then ((spec_l02List.f k (rd_L4 (rd_L5 x1004 x4) x5) (wrap64 (x1000 + 1)) x3).bind fun t342 => (spec_l02Ok.j4 k x3 x4 x5 (!t342) x1000 x1001 x1002 x1003 x1004 x1005)) else (none)) else (none)) else (spec_l02Ok.j4 k x3 x4 x5 true x1000 x1001 x1002 x1003 x1004 x1005))) else (spec_l02Ok.j4 k x3 x4 x5 true x1000 x1001 x1002 x1003 x1004 x1005))) else (none)) else (none)) else (none)) else (none)) else (spec_l02Ok.l0 k x3 (wrap64 (x4 + 1)) x1000 x1001 x1002 x1003 x1004 x1005)
def spec_l02Ok.j4 : Nat → Int → Int → Int → Bool → Int → Int → List Bool → List (List (S47)) → List (List (List Int)) → List (List Int) → Option (Bool)
 | 0, _, _, _, _, _, _, _, _, _, _ => none
 | k + 1, x3, x4, x5, x154, x1000, x1001, x1002, x1003, x1004, x1005 => if x154 = true then (some false) else (spec_l02Ok.l1 k x3 x4 (wrap64 (x5 + 1)) x1000 x1001 x1002 x1003 x1004 x1005)
end
def spec_l02Ok.f (k : Nat) (a0_0 : Int) (a0_1 : Int) (l0_2 : List Bool) (l0_3 : List (List (S47))) (l0_4 : List (List (List Int))) (l0_5 : List (List Int)) : Option (Bool) := (spec_l00In.f (l0_2.length : Int) 1 40).bind fun t327 => (if t327 = true then ((spec_l00In.f a0_0 1 80).bind fun t328 => (if t328 = true then ((spec_l00In.f a0_1 0 (wrap64 ((l0_2.length : Int) - 1))).bind fun t329 => (if t329 = true then (if (l0_3.length : Int) = (l0_2.length : Int) then (if (l0_4.length : Int) = (l0_2.length : Int) then (spec_l02Ok.j0 k (l0_2.length : Int) ((l0_5.length : Int) != (l0_2.length : Int)) a0_0 a0_1 l0_2 l0_3 l0_4 l0_5) else (spec_l02Ok.j0 k (l0_2.length : Int) true a0_0 a0_1 l0_2 l0_3 l0_4 l0_5)) else (spec_l02Ok.j0 k (l0_2.length : Int) true a0_0 a0_1 l0_2 l0_3 l0_4 l0_5)) else (spec_l02Ok.j0 k (l0_2.length : Int) true a0_0 a0_1 l0_2 l0_3 l0_4 l0_5))) else (spec_l02Ok.j0 k (l0_2.length : Int) true a0_0 a0_1 l0_2 l0_3 l0_4 l0_5))) else (spec_l02Ok.j0 k (l0_2.length : Int) true a0_0 a0_1 l0_2 l0_3 l0_4 l0_5))
def spec_l02Ok.T12 : Bool × List (List Nat × List Nat) := (true, [([], []), ([0], [0]), ([1], [1]), ([2], [2]), ([], []), ([3, 4], [3, 4]), ([5], [5]), ([], []), ([6, 7], [6, 7]), ([8], [8]), ([9], [9]), ([], []), ([11], [11]), ([10, 12], [10, 12]), ([13], [13]), ([14, 13], [14]), ([15], [15]), ([16, 15], [15, 16]), ([17, 15], [15, 17]), ([18, 15], [15, 18]), ([15], [15]), ([19, 20, 15], [15, 19, 20]), ([21, 15], [15, 21]), ([15], [15]), ([22, 23, 15], [15, 22, 23]), ([24, 15], [15, 24]), ([25, 15], [15, 25]), ([15], [15]), ([27, 15], [15, 27]), ([28, 15], [15, 28]), ([29, 15], [15, 29]), ([30, 15], [15, 30]), ([26, 31, 15, 15], [15, 26, 31]), ([32, 15], [15, 32]), ([15, 33], [15, 33]), ([34, 32], [34]), ([35], [35]), ([36, 35], [35, 36]), ([37, 35], [35, 37]), ([38, 35], [35, 38]), ([35], [35]), ([39, 40, 35], [35, 39, 40]), ([41, 35], [35, 41]), ([35], [35]), ([42, 43, 35], [35, 42, 43]), ([44, 35], [35, 44]), ([35], [35]), ([46, 35], [35, 46]), ([47, 35], [35, 47]), ([48, 35], [35, 48]), ([49, 35], [35, 49]), ([35], [35]), ([45, 50, 51, 35, 35], [35, 45, 50, 51]), ([52, 35], [35, 52]), ([35, 53], [35, 53])])
def spec_l02Ok.B12 : List Nat := [0, 1, 3, 7, 0, 31, 63, 0, 255, 511, 1023, 0, 2048, 8191, 16383, 32767, 65535, 131071, 262143, 524287, 65535, 2097151, 4194303, 65535, 16777215, 33554431, 67108863, 65535, 134283263, 402718719, 939589631, 2013331455, 4294967295, 8589934591, 17179869183, 34359738367, 68719476735, 137438953471, 274877906943, 549755813887, 68719476735, 2199023255551, 4398046511103, 68719476735, 17592186044415, 35184372088831, 68719476735, 70437463654399, 211174952009727, 492649928720383, 1055599882141695, 68719476735, 4503599627370495, 9007199254740991, 18014398509481983]
theorem spec_l02Ok.tab12 : rtab .any (opsOf Try.f70 12) = spec_l02Ok.T12 := by kernel_rfl
theorem spec_l02Ok.bits12 : waitsOk spec_l02Ok.T12.2 spec_l02Ok.B12 = true := by kernel_rfl
def spec_l02Ok.cz0 : List Nat := [0, 1, 2, 4, 7, 11, 12, 403, 5, 406, 8, 9, 410]
def spec_l02Ok.cz1 : List Nat := [14, 15, 16, 17, 18, 20, 23, 27, 28, 29, 419, 21, 422, 24, 25, 426, 430, 31]
def spec_l02Ok.cz2 : List Nat := [33, 34, 35, 36, 37, 38, 40, 43, 46, 47, 48, 51, 439, 41, 442, 44, 445, 449, 50]
def spec_l02Ok.cz3 : List Nat := [53, 54]
def spec_l02Ok.cz4 : List Nat := [33, 34, 35, 236, 237, 238, 239, 240, 241, 242, 243, 244, 245, 246, 247, 248, 249, 250, 251, 252, 253, 54]
def spec_l02Ok.cz5 : List Nat := [14, 15, 216, 217, 218, 219, 220, 221, 222, 223, 224, 225, 226, 227, 228, 229, 230, 231, 232, 233, 34, 35, 236, 237, 238, 239, 240, 241, 242, 243, 244, 245, 246, 247, 248, 249, 250, 251, 252, 253, 54]
theorem spec_l02Ok.calls (k : Nat) (g0_ : Nat) (a0_0 : Int) (a0_1 : Int) (A0_2 : Option Addr) (c0_2 : Nat) (l0_2 : List Bool) (A0_3 : Option Addr) (c0_3 : Nat) (l0_3 : List (List (S47))) (A0_4 : Option Addr) (c0_4 : Nat) (l0_4 : List (List (List Int))) (A0_5 : Option Addr) (c0_5 : Nat) (l0_5 : List (List Int)) (r : Bool) (w : World) (hr0_2 : Kd.C Kd.bool w A0_2 l0_2.length l0_2) (hc0_2 : l0_2.length ≤ c0_2) (hr0_3 : Kd.C (Kd.slice 47 k47) w A0_3 l0_3.length l0_3) (hc0_3 : l0_3.length ≤ c0_3) (hr0_4 : Kd.C (Kd.slice 49 (Kd.slice 2 (Kd.int .i64))) w A0_4 l0_4.length l0_4) (hc0_4 : l0_4.length ≤ c0_4) (hr0_5 : Kd.C (Kd.slice 2 (Kd.int .i64)) w A0_5 l0_5.length l0_5) (hc0_5 : l0_5.length ≤ c0_5) (hbk0_0 : w.heap[g0_]? = some (.cells #[.int .i64 a0_0, .int .i64 a0_1, .slice A0_2 l0_2.length c0_2, .slice A0_3 l0_3.length c0_3, .slice A0_4 l0_4.length c0_4, .slice A0_5 l0_5.length c0_5] 27 (0, 0))) (h : spec_l02Ok.f k a0_0 a0_1 l0_2 l0_3 l0_4 l0_5 = some r) :
  Calls Try.prog 70 #[.pointer (some ⟨g0_, 0, none⟩)] w fun e w' => e = .returned (.bool r) ∧ Below w.heap.size w w' := by
 have HR0_2 := AZ.mk hr0_2
 have HC0_2 := AZ.mk hc0_2
 clear hr0_2 hc0_2
 have HR0_3 := AZ.mk hr0_3
 have HC0_3 := AZ.mk hc0_3
 clear hr0_3 hc0_3
 have HR0_4 := AZ.mk hr0_4
 have HC0_4 := AZ.mk hc0_4
 clear hr0_4 hc0_4
 have HR0_5 := AZ.mk hr0_5
 have HC0_5 := AZ.mk hc0_5
 clear hr0_5 hc0_5
 have BK0 := AZ.mk hbk0_0
 clear hbk0_0
 have HB := AZ.mk (Below.refl w.heap.size w)
 have H : ((spec_l00In.f (l0_2.length : Int) 1 40).bind fun t327 => (if t327 = true then ((spec_l00In.f a0_0 1 80).bind fun t328 => (if t328 = true then ((spec_l00In.f a0_1 0 (wrap64 ((l0_2.length : Int) - 1))).bind fun t329 => (if t329 = true then (if (l0_3.length : Int) = (l0_2.length : Int) then (if (l0_4.length : Int) = (l0_2.length : Int) then (spec_l02Ok.j0 k (l0_2.length : Int) ((l0_5.length : Int) != (l0_2.length : Int)) a0_0 a0_1 l0_2 l0_3 l0_4 l0_5) else (spec_l02Ok.j0 k (l0_2.length : Int) true a0_0 a0_1 l0_2 l0_3 l0_4 l0_5)) else (spec_l02Ok.j0 k (l0_2.length : Int) true a0_0 a0_1 l0_2 l0_3 l0_4 l0_5)) else (spec_l02Ok.j0 k (l0_2.length : Int) true a0_0 a0_1 l0_2 l0_3 l0_4 l0_5))) else (spec_l02Ok.j0 k (l0_2.length : Int) true a0_0 a0_1 l0_2 l0_3 l0_4 l0_5))) else (spec_l02Ok.j0 k (l0_2.length : Int) true a0_0 a0_1 l0_2 l0_3 l0_4 l0_5))) = some r := h
 clear h
 have HC2 := AZ.mk H
 clear H
 obtain ⟨hcz3_0, hcz3_1, hcz3_2, hcz3_3, hcz3_4, hcz3_5⟩ := c6 BK0.out
 obtain ⟨hfz3_0, hfz3_1, hfz3_2, hfz3_3, hfz3_4, hfz3_5⟩ := f6 BK0.out
 go_enter Try.func70, Try.ntmps70
 go_upto_region 2 with (fail)
 go_cut [58] (fun v58 wc => ∃ (kq : Nat) (x58_1 : Bool), v58 = .bool x58_1 ∧ AZ (spec_l02Ok.j0 kq (l0_2.length : Int) x58_1 a0_0 a0_1 l0_2 l0_3 l0_4 l0_5 = some r) ∧ AZ (kq ≤ k) ∧ AZ (wc.heap[g0_]? = some (.cells #[.int .i64 a0_0, .int .i64 a0_1, (.slice A0_2 l0_2.length c0_2), (.slice A0_3 l0_3.length c0_3), (.slice A0_4 l0_4.length c0_4), (.slice A0_5 l0_5.length c0_5)] 27 (0, 0))) ∧ AZ (Below w.heap.size w wc))
 case first =>
  have H := HC2.out
  clear HC2
  replace H := Option.bind_eq_some_iff.mp H
  obtain ⟨t327, A40, H⟩ := H
  replace H : (if t327 = true then ((spec_l00In.f a0_0 1 80).bind fun t328 => (if t328 = true then ((spec_l00In.f a0_1 0 (wrap64 ((l0_2.length : Int) - 1))).bind fun t329 => (if t329 = true then (if (l0_3.length : Int) = (l0_2.length : Int) then (if (l0_4.length : Int) = (l0_2.length : Int) then (spec_l02Ok.j0 k (l0_2.length : Int) ((l0_5.length : Int) != (l0_2.length : Int)) a0_0 a0_1 l0_2 l0_3 l0_4 l0_5) else (spec_l02Ok.j0 k (l0_2.length : Int) true a0_0 a0_1 l0_2 l0_3 l0_4 l0_5)) else (spec_l02Ok.j0 k (l0_2.length : Int) true a0_0 a0_1 l0_2 l0_3 l0_4 l0_5)) else (spec_l02Ok.j0 k (l0_2.length : Int) true a0_0 a0_1 l0_2 l0_3 l0_4 l0_5))) else (spec_l02Ok.j0 k (l0_2.length : Int) true a0_0 a0_1 l0_2 l0_3 l0_4 l0_5))) else (spec_l02Ok.j0 k (l0_2.length : Int) true a0_0 a0_1 l0_2 l0_3 l0_4 l0_5)) = some r := H
  have A4 := AZ.mk A40
  clear A40
  by_cases c5 : t327 = true
  rotate_left
  ·replace c5 := Bool.eq_false_iff.mpr c5
   subst c5
   have H1 : (spec_l02Ok.j0 k (l0_2.length : Int) true a0_0 a0_1 l0_2 l0_3 l0_4 l0_5) = some r := by rw [if_neg (show ¬ (false = true) by decide)] at H; exact H
   clear H
   have H := H1
   clear H1
   have H' := AZ.mk H
   clear H
   go_wp2_with (first | ((with_reducible refine gate_callee (f := 50) rfl ?_); refine Zi (some 12) rfl rfl Try.func50 (by kernel_rfl) rfl #[.int .i64 (l0_2.length : Int), .int .i64 1, .int .i64 40] rfl (by (try simp only [mA, mB, mC]); first | done | rfl | (simp only [lD, lT]; rfl)) ?_; (with_reducible refine (spec_l00In.calls (l0_2.length : Int) 1 40 false _ A4.out).mono ?_); rintro e w' ⟨rfl, ⟨nd, rfl⟩⟩; refine ⟨_, rfl, ?_⟩))
   go_meet
   case rel => exact ⟨_, (true), (by first | rfl | (simp; done) | (simp [*]; done)), H', ⟨by first | omega | exact Nat.le_refl _⟩, ⟨by (with_reducible repeat (first | refine bn_ ?_ _ | refine bd_ ?_ | refine ba_ ?_ _)); exact BK0.out⟩, ⟨by repeat (first | (with_reducible first | exact HB.out | apply pA | apply pN | apply pD | refine pS ?_ GE0.out) | exact HB.out)⟩⟩
  subst c5
  have H1 : ((spec_l00In.f a0_0 1 80).bind fun t328 => (if t328 = true then ((spec_l00In.f a0_1 0 (wrap64 ((l0_2.length : Int) - 1))).bind fun t329 => (if t329 = true then (if (l0_3.length : Int) = (l0_2.length : Int) then (if (l0_4.length : Int) = (l0_2.length : Int) then (spec_l02Ok.j0 k (l0_2.length : Int) ((l0_5.length : Int) != (l0_2.length : Int)) a0_0 a0_1 l0_2 l0_3 l0_4 l0_5) else (spec_l02Ok.j0 k (l0_2.length : Int) true a0_0 a0_1 l0_2 l0_3 l0_4 l0_5)) else (spec_l02Ok.j0 k (l0_2.length : Int) true a0_0 a0_1 l0_2 l0_3 l0_4 l0_5)) else (spec_l02Ok.j0 k (l0_2.length : Int) true a0_0 a0_1 l0_2 l0_3 l0_4 l0_5))) else (spec_l02Ok.j0 k (l0_2.length : Int) true a0_0 a0_1 l0_2 l0_3 l0_4 l0_5))) = some r := by rw [if_pos rfl] at H; exact H
  clear H
  have H := H1
  clear H1
  replace H := Option.bind_eq_some_iff.mp H
  obtain ⟨t328, A60, H⟩ := H
  replace H : (if t328 = true then ((spec_l00In.f a0_1 0 (wrap64 ((l0_2.length : Int) - 1))).bind fun t329 => (if t329 = true then (if (l0_3.length : Int) = (l0_2.length : Int) then (if (l0_4.length : Int) = (l0_2.length : Int) then (spec_l02Ok.j0 k (l0_2.length : Int) ((l0_5.length : Int) != (l0_2.length : Int)) a0_0 a0_1 l0_2 l0_3 l0_4 l0_5) else (spec_l02Ok.j0 k (l0_2.length : Int) true a0_0 a0_1 l0_2 l0_3 l0_4 l0_5)) else (spec_l02Ok.j0 k (l0_2.length : Int) true a0_0 a0_1 l0_2 l0_3 l0_4 l0_5)) else (spec_l02Ok.j0 k (l0_2.length : Int) true a0_0 a0_1 l0_2 l0_3 l0_4 l0_5))) else (spec_l02Ok.j0 k (l0_2.length : Int) true a0_0 a0_1 l0_2 l0_3 l0_4 l0_5)) = some r := H
  have A6 := AZ.mk A60
  clear A60
  by_cases c7 : t328 = true
  rotate_left
  ·replace c7 := Bool.eq_false_iff.mpr c7
   subst c7
   have H1 : (spec_l02Ok.j0 k (l0_2.length : Int) true a0_0 a0_1 l0_2 l0_3 l0_4 l0_5) = some r := by rw [if_neg (show ¬ (false = true) by decide)] at H; exact H
   clear H
   have H := H1
   clear H1
   have H' := AZ.mk H
   clear H
   go_wp2_with (first | ((with_reducible refine gate_callee (f := 50) rfl ?_); refine Zi (some 12) rfl rfl Try.func50 (by kernel_rfl) rfl #[.int .i64 (l0_2.length : Int), .int .i64 1, .int .i64 40] rfl (by (try simp only [mA, mB, mC]); first | done | rfl | (simp only [lD, lT]; rfl)) ?_; (with_reducible refine (spec_l00In.calls (l0_2.length : Int) 1 40 true _ A4.out).mono ?_); rintro e w' ⟨rfl, ⟨nd, rfl⟩⟩; refine ⟨_, rfl, ?_⟩; obtain ⟨hcz16_0, hcz16_1, hcz16_2, hcz16_3, hcz16_4, hcz16_5⟩ := c6 BK0.out; obtain ⟨hfz16_0, hfz16_1, hfz16_2, hfz16_3, hfz16_4, hfz16_5⟩ := f6 BK0.out) | (go_at_call 50; (with_reducible refine (spec_l00In.calls a0_0 1 80 false _ A6.out).mono ?_); rintro e w' ⟨rfl, ⟨nd, rfl⟩⟩))
   go_meet
   case rel => exact ⟨_, (true), (by first | rfl | (simp; done) | (simp [*]; done)), H', ⟨by first | omega | exact Nat.le_refl _⟩, ⟨by (with_reducible repeat (first | refine bn_ ?_ _ | refine bd_ ?_ | refine ba_ ?_ _)); exact BK0.out⟩, ⟨by repeat (first | (with_reducible first | exact HB.out | apply pA | apply pN | apply pD | refine pS ?_ GE0.out) | exact HB.out)⟩⟩
  subst c7
  have H1 : ((spec_l00In.f a0_1 0 (wrap64 ((l0_2.length : Int) - 1))).bind fun t329 => (if t329 = true then (if (l0_3.length : Int) = (l0_2.length : Int) then (if (l0_4.length : Int) = (l0_2.length : Int) then (spec_l02Ok.j0 k (l0_2.length : Int) ((l0_5.length : Int) != (l0_2.length : Int)) a0_0 a0_1 l0_2 l0_3 l0_4 l0_5) else (spec_l02Ok.j0 k (l0_2.length : Int) true a0_0 a0_1 l0_2 l0_3 l0_4 l0_5)) else (spec_l02Ok.j0 k (l0_2.length : Int) true a0_0 a0_1 l0_2 l0_3 l0_4 l0_5)) else (spec_l02Ok.j0 k (l0_2.length : Int) true a0_0 a0_1 l0_2 l0_3 l0_4 l0_5))) = some r := by rw [if_pos rfl] at H; exact H
  clear H
  have H := H1
  clear H1
  replace H := Option.bind_eq_some_iff.mp H
  obtain ⟨t329, A80, H⟩ := H
  replace H : (if t329 = true then (if (l0_3.length : Int) = (l0_2.length : Int) then (if (l0_4.length : Int) = (l0_2.length : Int) then (spec_l02Ok.j0 k (l0_2.length : Int) ((l0_5.length : Int) != (l0_2.length : Int)) a0_0 a0_1 l0_2 l0_3 l0_4 l0_5) else (spec_l02Ok.j0 k (l0_2.length : Int) true a0_0 a0_1 l0_2 l0_3 l0_4 l0_5)) else (spec_l02Ok.j0 k (l0_2.length : Int) true a0_0 a0_1 l0_2 l0_3 l0_4 l0_5)) else (spec_l02Ok.j0 k (l0_2.length : Int) true a0_0 a0_1 l0_2 l0_3 l0_4 l0_5)) = some r := H
  have A8 := AZ.mk A80
  clear A80
  by_cases c9 : t329 = true
  rotate_left
  ·replace c9 := Bool.eq_false_iff.mpr c9
   subst c9
   have H1 : (spec_l02Ok.j0 k (l0_2.length : Int) true a0_0 a0_1 l0_2 l0_3 l0_4 l0_5) = some r := by rw [if_neg (show ¬ (false = true) by decide)] at H; exact H
   clear H
   have H := H1
   clear H1
   have H' := AZ.mk H
   clear H
   go_wp2_with (first | ((with_reducible refine gate_callee (f := 50) rfl ?_); refine Zi (some 12) rfl rfl Try.func50 (by kernel_rfl) rfl #[.int .i64 (l0_2.length : Int), .int .i64 1, .int .i64 40] rfl (by (try simp only [mA, mB, mC]); first | done | rfl | (simp only [lD, lT]; rfl)) ?_; (with_reducible refine (spec_l00In.calls (l0_2.length : Int) 1 40 true _ A4.out).mono ?_); rintro e w' ⟨rfl, ⟨nd, rfl⟩⟩; refine ⟨_, rfl, ?_⟩; obtain ⟨hcz15_0, hcz15_1, hcz15_2, hcz15_3, hcz15_4, hcz15_5⟩ := c6 BK0.out; obtain ⟨hfz15_0, hfz15_1, hfz15_2, hfz15_3, hfz15_4, hfz15_5⟩ := f6 BK0.out) | (go_at_call 50; (with_reducible refine (spec_l00In.calls a0_0 1 80 true _ A6.out).mono ?_); rintro e w' ⟨rfl, ⟨nd, rfl⟩⟩) | (go_at_call 50; (with_reducible refine (spec_l00In.calls a0_1 0 (wrap64 ((l0_2.length : Int) - 1)) false _ A8.out).mono ?_); rintro e w' ⟨rfl, ⟨nd, rfl⟩⟩))
   go_meet
   case rel => exact ⟨_, (true), (by first | rfl | (simp; done) | (simp [*]; done)), H', ⟨by first | omega | exact Nat.le_refl _⟩, ⟨by (with_reducible repeat (first | refine bn_ ?_ _ | refine bd_ ?_ | refine ba_ ?_ _)); exact BK0.out⟩, ⟨by repeat (first | (with_reducible first | exact HB.out | apply pA | apply pN | apply pD | refine pS ?_ GE0.out) | exact HB.out)⟩⟩
  subst c9
  have H1 : (if (l0_3.length : Int) = (l0_2.length : Int) then (if (l0_4.length : Int) = (l0_2.length : Int) then (spec_l02Ok.j0 k (l0_2.length : Int) ((l0_5.length : Int) != (l0_2.length : Int)) a0_0 a0_1 l0_2 l0_3 l0_4 l0_5) else (spec_l02Ok.j0 k (l0_2.length : Int) true a0_0 a0_1 l0_2 l0_3 l0_4 l0_5)) else (spec_l02Ok.j0 k (l0_2.length : Int) true a0_0 a0_1 l0_2 l0_3 l0_4 l0_5)) = some r := by rw [if_pos rfl] at H; exact H
  clear H
  have H := H1
  clear H1
  by_cases c10 : (l0_3.length : Int) = (l0_2.length : Int)
  rotate_left
  ·rw [if_neg c10] at H
   have c10b0 : ((l0_3.length : Int) == (l0_2.length : Int)) = false := beq_eq_false_iff_ne.mpr c10
   have c10b1 : ((l0_3.length : Int) != (l0_2.length : Int)) = true := bne_iff_ne.mpr c10
   have c10b2 : (l0_3.length == l0_2.length) = false := by first | simpa using c10 | (simp at c10 ⊢; omega)
   (first | rw [c10b0] | rw [c10b1] | (simp only [i64_w, i32_w]; rw [c10b0]) | skip)
   have H' := AZ.mk H
   clear H
   go_wp2_with (first | ((with_reducible refine gate_callee (f := 50) rfl ?_); refine Zi (some 12) rfl rfl Try.func50 (by kernel_rfl) rfl #[.int .i64 (l0_2.length : Int), .int .i64 1, .int .i64 40] rfl (by (try simp only [mA, mB, mC]); first | done | rfl | (simp only [lD, lT]; rfl)) ?_; (with_reducible refine (spec_l00In.calls (l0_2.length : Int) 1 40 true _ A4.out).mono ?_); rintro e w' ⟨rfl, ⟨nd, rfl⟩⟩; refine ⟨_, rfl, ?_⟩; obtain ⟨hcz14_0, hcz14_1, hcz14_2, hcz14_3, hcz14_4, hcz14_5⟩ := c6 BK0.out; obtain ⟨hfz14_0, hfz14_1, hfz14_2, hfz14_3, hfz14_4, hfz14_5⟩ := f6 BK0.out) | (go_at_call 50; (with_reducible refine (spec_l00In.calls a0_0 1 80 true _ A6.out).mono ?_); rintro e w' ⟨rfl, ⟨nd, rfl⟩⟩) | (go_at_call 50; (with_reducible refine (spec_l00In.calls a0_1 0 (wrap64 ((l0_2.length : Int) - 1)) true _ A8.out).mono ?_); rintro e w' ⟨rfl, ⟨nd, rfl⟩⟩))
   go_meet
   case rel => exact ⟨_, (true), (by first | rfl | (simp; done) | (simp [*]; done)), H', ⟨by first | omega | exact Nat.le_refl _⟩, ⟨by (with_reducible repeat (first | refine bn_ ?_ _ | refine bd_ ?_ | refine ba_ ?_ _)); exact BK0.out⟩, ⟨by repeat (first | (with_reducible first | exact HB.out | apply pA | apply pN | apply pD | refine pS ?_ GE0.out) | exact HB.out)⟩⟩
  rw [if_pos c10] at H
  have c10b0 : ((l0_3.length : Int) == (l0_2.length : Int)) = true := beq_iff_eq.mpr c10
  have c10b1 : ((l0_3.length : Int) != (l0_2.length : Int)) = false := bne_eq_false_iff_eq.mpr c10
  have c10b2 : (l0_3.length == l0_2.length) = true := by first | simpa using c10 | (simp at c10 ⊢; omega)
  clear c10
  (first | rw [c10b0] | rw [c10b1] | (simp only [i64_w, i32_w]; rw [c10b0]) | skip)
  by_cases c11 : (l0_4.length : Int) = (l0_2.length : Int)
  rotate_left
  ·rw [if_neg c11] at H
   have c11b0 : ((l0_4.length : Int) == (l0_2.length : Int)) = false := beq_eq_false_iff_ne.mpr c11
   have c11b1 : ((l0_4.length : Int) != (l0_2.length : Int)) = true := bne_iff_ne.mpr c11
   have c11b2 : (l0_4.length == l0_2.length) = false := by first | simpa using c11 | (simp at c11 ⊢; omega)
   have H' := AZ.mk H
   clear H
   go_wp2_with (first | ((with_reducible refine gate_callee (f := 50) rfl ?_); refine Zi (some 12) rfl rfl Try.func50 (by kernel_rfl) rfl #[.int .i64 (l0_2.length : Int), .int .i64 1, .int .i64 40] rfl (by (try simp only [mA, mB, mC]); first | done | rfl | (simp only [lD, lT]; rfl)) ?_; (with_reducible refine (spec_l00In.calls (l0_2.length : Int) 1 40 true _ A4.out).mono ?_); rintro e w' ⟨rfl, ⟨nd, rfl⟩⟩; refine ⟨_, rfl, ?_⟩; obtain ⟨hcz13_0, hcz13_1, hcz13_2, hcz13_3, hcz13_4, hcz13_5⟩ := c6 BK0.out; obtain ⟨hfz13_0, hfz13_1, hfz13_2, hfz13_3, hfz13_4, hfz13_5⟩ := f6 BK0.out) | (go_at_call 50; (with_reducible refine (spec_l00In.calls a0_0 1 80 true _ A6.out).mono ?_); rintro e w' ⟨rfl, ⟨nd, rfl⟩⟩) | (go_at_call 50; (with_reducible refine (spec_l00In.calls a0_1 0 (wrap64 ((l0_2.length : Int) - 1)) true _ A8.out).mono ?_); rintro e w' ⟨rfl, ⟨nd, rfl⟩⟩))
   go_meet
   case rel => exact ⟨_, (true), (by first | rfl | (simp; done) | (simp [*]; done)), H', ⟨by first | omega | exact Nat.le_refl _⟩, ⟨by (with_reducible repeat (first | refine bn_ ?_ _ | refine bd_ ?_ | refine ba_ ?_ _)); exact BK0.out⟩, ⟨by repeat (first | (with_reducible first | exact HB.out | apply pA | apply pN | apply pD | refine pS ?_ GE0.out) | exact HB.out)⟩⟩
  rw [if_pos c11] at H
  have c11b0 : ((l0_4.length : Int) == (l0_2.length : Int)) = true := beq_iff_eq.mpr c11
  have c11b1 : ((l0_4.length : Int) != (l0_2.length : Int)) = false := bne_eq_false_iff_eq.mpr c11
  have c11b2 : (l0_4.length == l0_2.length) = true := by first | simpa using c11 | (simp at c11 ⊢; omega)
  clear c11
  have H' := AZ.mk H
  clear H
  go_wp2_with (first | ((with_reducible refine gate_callee (f := 50) rfl ?_); refine Zi (some 12) rfl rfl Try.func50 (by kernel_rfl) rfl #[.int .i64 (l0_2.length : Int), .int .i64 1, .int .i64 40] rfl (by (try simp only [mA, mB, mC]); first | done | rfl | (simp only [lD, lT]; rfl)) ?_; (with_reducible refine (spec_l00In.calls (l0_2.length : Int) 1 40 true _ A4.out).mono ?_); rintro e w' ⟨rfl, ⟨nd, rfl⟩⟩; refine ⟨_, rfl, ?_⟩; obtain ⟨hcz12_0, hcz12_1, hcz12_2, hcz12_3, hcz12_4, hcz12_5⟩ := c6 BK0.out; obtain ⟨hfz12_0, hfz12_1, hfz12_2, hfz12_3, hfz12_4, hfz12_5⟩ := f6 BK0.out) | (go_at_call 50; (with_reducible refine (spec_l00In.calls a0_0 1 80 true _ A6.out).mono ?_); rintro e w' ⟨rfl, ⟨nd, rfl⟩⟩) | (go_at_call 50; (with_reducible refine (spec_l00In.calls a0_1 0 (wrap64 ((l0_2.length : Int) - 1)) true _ A8.out).mono ?_); rintro e w' ⟨rfl, ⟨nd, rfl⟩⟩))
  go_meet
  case rel => exact ⟨_, (((l0_5.length : Int) != (l0_2.length : Int))), (by first | rfl | (simp; done) | (simp [*]; done)), H', ⟨by first | omega | exact Nat.le_refl _⟩, ⟨by (with_reducible repeat (first | refine bn_ ?_ _ | refine bd_ ?_ | refine ba_ ?_ _)); exact BK0.out⟩, ⟨by repeat (first | (with_reducible first | exact HB.out | apply pA | apply pN | apply pD | refine pS ?_ GE0.out) | exact HB.out)⟩⟩
 case rest =>
  clear HC2
  obtain ⟨kq, x58_1, rfl, HA, HJ1, BK0, HB⟩ := hcut
  cases kq with
  | zero => exact absurd HA.out (by simp [spec_l02Ok.j0])
  | succ kj1 =>
   have H := HA.out
   clear HA
   simp only [spec_l02Ok.j0] at H
   by_cases c17 : x58_1 = true
   ·subst c17
    have H1 : (some false) = some r := by rw [if_pos rfl] at H; exact H
    clear H
    have H := H1
    clear H1
    obtain rfl := oJ H
    go_wp2
    go_ret
    exact ⟨by first | rfl | (simp [Ze, Zf] <;> rfl) | (simp [*, Ze, Zf] <;> rfl), by repeat (first | (with_reducible first | exact HB.out | apply pA | apply pN | apply pD | refine pS ?_ GE0.out) | exact HB.out)⟩
   replace c17 := Bool.eq_false_iff.mpr c17
   subst c17
   have H1 : (spec_l02Ok.l0 kj1 (l0_2.length : Int) 0 a0_0 a0_1 l0_2 l0_3 l0_4 l0_5) = some r := by rw [if_neg (show ¬ (false = true) by decide)] at H; exact H
   clear H
   have H := H1
   clear H1
   have H' := AZ.mk H
   clear H
   go_wp2
   go_loopg [4] kj1 (fun kq v4 w' => ∃ (x4_2 : Int), v4 = .int .i64 x4_2 ∧ AZ (spec_l02Ok.l0 kq (l0_2.length : Int) x4_2 a0_0 a0_1 l0_2 l0_3 l0_4 l0_5 = some r) ∧ AZ (kq ≤ kj1) ∧ AZ (w'.heap[g0_]? = some (.cells #[.int .i64 a0_0, .int .i64 a0_1, (.slice A0_2 l0_2.length c0_2), (.slice A0_3 l0_3.length c0_3), (.slice A0_4 l0_4.length c0_4), (.slice A0_5 l0_5.length c0_5)] 27 (0, 0))) ∧ AZ (Below w.heap.size w w'))
   case atStart => exact ⟨(0), (by first | rfl | (simp; done) | (simp [*]; done)), H', ⟨Nat.le_refl _⟩, ⟨by (with_reducible repeat (first | refine bn_ ?_ _ | refine bd_ ?_ | refine ba_ ?_ _)); exact BK0.out⟩, ⟨by repeat (first | (with_reducible first | exact HB.out | apply pA | apply pN | apply pD | refine pS ?_ GE0.out) | exact HB.out)⟩⟩
   case round =>
    clear H'
    obtain ⟨x4_2, rfl, HA, HK2, BK0, HB⟩ := hrel
    cases gk with
    | zero => exact absurd HA.out (by simp [spec_l02Ok.l0])
    | succ k2 =>
     have H := HA.out
     clear HA
     simp only [spec_l02Ok.l0] at H
     by_cases c18 : x4_2 < (l0_2.length : Int)
     rotate_left
     ·rw [if_neg c18] at H
      have c18b0 : decide (x4_2 < (l0_2.length : Int)) = false := dF c18
      clear c18
      obtain rfl := oJ H
      go_wp2
      go_ret
      exact ⟨by first | rfl | (simp [Ze, Zf] <;> rfl) | (simp [*, Ze, Zf] <;> rfl), by repeat (first | (with_reducible first | exact HB.out | apply pA | apply pN | apply pD | refine pS ?_ GE0.out) | exact HB.out)⟩
     rw [if_pos c18] at H
     have c18b0 : decide (x4_2 < (l0_2.length : Int)) = true := dT c18
     clear c18
     have HC19 := AZ.mk H
     clear H
     go_upto_region 7 with (fail)
     go_cut [95] (fun v95 wc => ∃ (kq : Nat) (x95_18 : Bool), v95 = .bool x95_18 ∧ AZ (spec_l02Ok.j2 kq (l0_2.length : Int) x4_2 x95_18 a0_0 a0_1 l0_2 l0_3 l0_4 l0_5 = some r) ∧ AZ (kq ≤ k2) ∧ AZ (wc.heap[g0_]? = some (.cells #[.int .i64 a0_0, .int .i64 a0_1, (.slice A0_2 l0_2.length c0_2), (.slice A0_3 l0_3.length c0_3), (.slice A0_4 l0_4.length c0_4), (.slice A0_5 l0_5.length c0_5)] 27 (0, 0))) ∧ AZ (Below w.heap.size w wc))
     case first =>
      have H := HC19.out
      clear HC19
      by_cases c20 : 0 ≤ x4_2
      rotate_left
      ·rw [if_neg c20] at H
       exact absurd H (by simp)
      rw [if_pos c20] at H
      have c20b0 : decide (0 ≤ x4_2) = true := dT c20
      clear c20
      (first | rw [c20b0] | rw [c20b1] | (simp only [i64_w, i32_w]; rw [c20b0]) | skip)
      by_cases c21 : x4_2 < (l0_3.length : Int)
      rotate_left
      ·rw [if_neg c21] at H
       exact absurd H (by simp)
      rw [if_pos c21] at H
      have c21b0 : decide (x4_2 < (l0_3.length : Int)) = true := dT c21
      clear c21
      by_cases c22 : ((Zd l0_3 x4_2).length : Int) = 2
      rotate_left
      ·rw [if_neg c22] at H
       have c22b0 : (((Zd l0_3 x4_2).length : Int) == 2) = false := beq_eq_false_iff_ne.mpr c22
       have c22b1 : (((Zd l0_3 x4_2).length : Int) != 2) = true := bne_iff_ne.mpr c22
       have H' := AZ.mk H
       clear H
       obtain ⟨hcz29_0, hcz29_1, hcz29_2, hcz29_3, hcz29_4, hcz29_5⟩ := c6 BK0.out
       obtain ⟨hfz29_0, hfz29_1, hfz29_2, hfz29_3, hfz29_4, hfz29_5⟩ := f6 BK0.out
       have p330 : 0 ≤ (x4_2 : Int) := oT (by first | (with_reducible assumption) | assumption)
       have q330 : x4_2 < (l0_3.length : Int) := oT (by first | (with_reducible assumption) | assumption)
       obtain ⟨ad330, A330_0, c330_0, e330, hx330_0, hl330_0, hi330_0⟩ := at_L3 HR0_3.out x4_2 p330 q330
       cases e330
       replace hx330_0 := (HB.out.cell (World.block_lt_of_cell? w _ hx330_0)).trans hx330_0
       have HR330_0 := AZ.mk hi330_0
       have HC330_0 := AZ.mk hl330_0
       clear hi330_0 hl330_0
       replace p330 := eq_true p330
       replace q330 := eq_true q330
       go_wp2
       go_meet
       case rel => exact ⟨_, (true), (by first | rfl | (simp; done) | (simp [*]; done)), H', ⟨by have := HJ1.out; have := HK2.out; first | omega | exact Nat.le_refl _⟩, ⟨by (with_reducible repeat (first | refine bn_ ?_ _ | refine bd_ ?_ | refine ba_ ?_ _)); exact BK0.out⟩, ⟨by repeat (first | (with_reducible first | exact HB.out | apply pA | apply pN | apply pD | refine pS ?_ GE0.out) | exact HB.out)⟩⟩
      rw [if_pos c22] at H
      have c22b0 : (((Zd l0_3 x4_2).length : Int) == 2) = true := beq_iff_eq.mpr c22
      have c22b1 : (((Zd l0_3 x4_2).length : Int) != 2) = false := bne_eq_false_iff_eq.mpr c22
      clear c22
      by_cases c23 : x4_2 < (l0_4.length : Int)
      rotate_left
      ·rw [if_neg c23] at H
       exact absurd H (by simp)
      rw [if_pos c23] at H
      have c23b0 : decide (x4_2 < (l0_4.length : Int)) = true := dT c23
      clear c23
      by_cases c24 : ((rd_L5 l0_4 x4_2).length : Int) = 2
      rotate_left
      ·rw [if_neg c24] at H
       have c24b0 : (((rd_L5 l0_4 x4_2).length : Int) == 2) = false := beq_eq_false_iff_ne.mpr c24
       have c24b1 : (((rd_L5 l0_4 x4_2).length : Int) != 2) = true := bne_iff_ne.mpr c24
       have H' := AZ.mk H
       clear H
       obtain ⟨hcz28_0, hcz28_1, hcz28_2, hcz28_3, hcz28_4, hcz28_5⟩ := c6 BK0.out
       obtain ⟨hfz28_0, hfz28_1, hfz28_2, hfz28_3, hfz28_4, hfz28_5⟩ := f6 BK0.out
       have p330 : 0 ≤ (x4_2 : Int) := oT (by first | (with_reducible assumption) | assumption)
       have q330 : x4_2 < (l0_3.length : Int) := oT (by first | (with_reducible assumption) | assumption)
       obtain ⟨ad330, A330_0, c330_0, e330, hx330_0, hl330_0, hi330_0⟩ := at_L3 HR0_3.out x4_2 p330 q330
       cases e330
       replace hx330_0 := (HB.out.cell (World.block_lt_of_cell? w _ hx330_0)).trans hx330_0
       have HR330_0 := AZ.mk hi330_0
       have HC330_0 := AZ.mk hl330_0
       clear hi330_0 hl330_0
       replace p330 := eq_true p330
       replace q330 := eq_true q330
       have p331 : 0 ≤ (x4_2 : Int) := oT (by first | (with_reducible assumption) | assumption)
       have q331 : x4_2 < (l0_4.length : Int) := oT (by first | (with_reducible assumption) | assumption)
       obtain ⟨ad331, A331_0, c331_0, e331, hx331_0, hl331_0, hi331_0⟩ := at_L5 HR0_4.out x4_2 p331 q331
       cases e331
       replace hx331_0 := (HB.out.cell (World.block_lt_of_cell? w _ hx331_0)).trans hx331_0
       have HR331_0 := AZ.mk hi331_0
       have HC331_0 := AZ.mk hl331_0
       clear hi331_0 hl331_0
       replace p331 := eq_true p331
       replace q331 := eq_true q331
       go_wp2
       go_meet
       case rel => exact ⟨_, (true), (by first | rfl | (simp; done) | (simp [*]; done)), H', ⟨by have := HJ1.out; have := HK2.out; first | omega | exact Nat.le_refl _⟩, ⟨by (with_reducible repeat (first | refine bn_ ?_ _ | refine bd_ ?_ | refine ba_ ?_ _)); exact BK0.out⟩, ⟨by repeat (first | (with_reducible first | exact HB.out | apply pA | apply pN | apply pD | refine pS ?_ GE0.out) | exact HB.out)⟩⟩
      rw [if_pos c24] at H
      have c24b0 : (((rd_L5 l0_4 x4_2).length : Int) == 2) = true := beq_iff_eq.mpr c24
      have c24b1 : (((rd_L5 l0_4 x4_2).length : Int) != 2) = false := bne_eq_false_iff_eq.mpr c24
      clear c24
      by_cases c25 : x4_2 < (l0_5.length : Int)
      rotate_left
      ·rw [if_neg c25] at H
       exact absurd H (by simp)
      rw [if_pos c25] at H
      have c25b0 : decide (x4_2 < (l0_5.length : Int)) = true := dT c25
      clear c25
      replace H := Option.bind_eq_some_iff.mp H
      obtain ⟨t333, A260, H⟩ := H
      replace H : (spec_l02Ok.j2 k2 (l0_2.length : Int) x4_2 (!t333) a0_0 a0_1 l0_2 l0_3 l0_4 l0_5) = some r := H
      have A26 := AZ.mk A260
      clear A260
      have H' := AZ.mk H
      clear H
      obtain ⟨hcz27_0, hcz27_1, hcz27_2, hcz27_3, hcz27_4, hcz27_5⟩ := c6 BK0.out
      obtain ⟨hfz27_0, hfz27_1, hfz27_2, hfz27_3, hfz27_4, hfz27_5⟩ := f6 BK0.out
      have p330 : 0 ≤ (x4_2 : Int) := oT (by first | (with_reducible assumption) | assumption)
      have q330 : x4_2 < (l0_3.length : Int) := oT (by first | (with_reducible assumption) | assumption)
      obtain ⟨ad330, A330_0, c330_0, e330, hx330_0, hl330_0, hi330_0⟩ := at_L3 HR0_3.out x4_2 p330 q330
      cases e330
      replace hx330_0 := (HB.out.cell (World.block_lt_of_cell? w _ hx330_0)).trans hx330_0
      have HR330_0 := AZ.mk hi330_0
      have HC330_0 := AZ.mk hl330_0
      clear hi330_0 hl330_0
      replace p330 := eq_true p330
      replace q330 := eq_true q330
      have p331 : 0 ≤ (x4_2 : Int) := oT (by first | (with_reducible assumption) | assumption)
      have q331 : x4_2 < (l0_4.length : Int) := oT (by first | (with_reducible assumption) | assumption)
      obtain ⟨ad331, A331_0, c331_0, e331, hx331_0, hl331_0, hi331_0⟩ := at_L5 HR0_4.out x4_2 p331 q331
      cases e331
      replace hx331_0 := (HB.out.cell (World.block_lt_of_cell? w _ hx331_0)).trans hx331_0
      have HR331_0 := AZ.mk hi331_0
      have HC331_0 := AZ.mk hl331_0
      clear hi331_0 hl331_0
      replace p331 := eq_true p331
      replace q331 := eq_true q331
      have p332 : 0 ≤ (x4_2 : Int) := oT (by first | (with_reducible assumption) | assumption)
      have q332 : x4_2 < (l0_5.length : Int) := oT (by first | (with_reducible assumption) | assumption)
      obtain ⟨ad332, A332_0, c332_0, e332, hx332_0, hl332_0, hi332_0⟩ := at_L4 HR0_5.out x4_2 p332 q332
      cases e332
      replace hx332_0 := (HB.out.cell (World.block_lt_of_cell? w _ hx332_0)).trans hx332_0
      have HR332_0 := AZ.mk hi332_0
      have HC332_0 := AZ.mk hl332_0
      clear hi332_0 hl332_0
      replace p332 := eq_true p332
      replace q332 := eq_true q332
      go_wp2_with (first | (go_at_call 93; (with_reducible refine (spec_l02List.calls k2 _ _ (rd_L4 l0_5 x4_2) 2 (l0_2.length : Int) t333 _ ?side1 ?side2 A26.out).mono ?_); (case side1 => exact Kd.C_below HR332_0.out HB.out); (case side2 => exact HC332_0.out); rintro e w' ⟨rfl, ⟨nd, rfl⟩⟩))
      go_meet
      case rel => exact ⟨_, (!t333), (by first | rfl | (simp; done) | (simp [*]; done)), H', ⟨by have := HJ1.out; have := HK2.out; first | omega | exact Nat.le_refl _⟩, ⟨by (with_reducible repeat (first | refine bn_ ?_ _ | refine bd_ ?_ | refine ba_ ?_ _)); exact BK0.out⟩, ⟨by repeat (first | (with_reducible first | exact HB.out | apply pA | apply pN | apply pD | refine pS ?_ GE0.out) | exact HB.out)⟩⟩
     case rest =>
      clear HC19
      obtain ⟨kq, x95_18, rfl, HA, HJ18, BK0, HB⟩ := hcut
      cases kq with
      | zero => exact absurd HA.out (by simp [spec_l02Ok.j2])
      | succ kj18 =>
       have H := HA.out
       clear HA
       simp only [spec_l02Ok.j2] at H
       by_cases c30 : x95_18 = true
       ·subst c30
        have H1 : (some false) = some r := by rw [if_pos rfl] at H; exact H
        clear H
        have H := H1
        clear H1
        obtain rfl := oJ H
        go_wp2
        go_ret
        exact ⟨by first | rfl | (simp [Ze, Zf] <;> rfl) | (simp [*, Ze, Zf] <;> rfl), by repeat (first | (with_reducible first | exact HB.out | apply pA | apply pN | apply pD | refine pS ?_ GE0.out) | exact HB.out)⟩
       replace c30 := Bool.eq_false_iff.mpr c30
       subst c30
       have H1 : (spec_l02Ok.l1 kj18 (l0_2.length : Int) x4_2 0 a0_0 a0_1 l0_2 l0_3 l0_4 l0_5) = some r := by rw [if_neg (show ¬ (false = true) by decide)] at H; exact H
       clear H
       have H := H1
       clear H1
       have H' := AZ.mk H
       clear H
       go_wp2
       go_loopg [5] kj18 (fun kq v5 w' => ∃ (x5_4 : Int), v5 = .int .i64 x5_4 ∧ AZ (spec_l02Ok.l1 kq (l0_2.length : Int) x4_2 x5_4 a0_0 a0_1 l0_2 l0_3 l0_4 l0_5 = some r) ∧ AZ (kq ≤ kj18) ∧ AZ (w'.heap[g0_]? = some (.cells #[.int .i64 a0_0, .int .i64 a0_1, (.slice A0_2 l0_2.length c0_2), (.slice A0_3 l0_3.length c0_3), (.slice A0_4 l0_4.length c0_4), (.slice A0_5 l0_5.length c0_5)] 27 (0, 0))) ∧ AZ (Below w.heap.size w w'))
       case atStart => exact ⟨(0), (by first | rfl | (simp; done) | (simp [*]; done)), H', ⟨Nat.le_refl _⟩, ⟨by (with_reducible repeat (first | refine bn_ ?_ _ | refine bd_ ?_ | refine ba_ ?_ _)); exact BK0.out⟩, ⟨by repeat (first | (with_reducible first | exact HB.out | apply pA | apply pN | apply pD | refine pS ?_ GE0.out) | exact HB.out)⟩⟩
       case round =>
        clear H'
        obtain ⟨x5_4, rfl, HA, HK4, BK0, HB⟩ := hrel
        cases gk with
        | zero => exact absurd HA.out (by simp [spec_l02Ok.l1])
        | succ k4 =>
         have H := HA.out
         clear HA
         simp only [spec_l02Ok.l1] at H
         by_cases c31 : x5_4 < 2
         rotate_left
         ·rw [if_neg c31] at H
          have c31b0 : decide (x5_4 < 2) = false := dF c31
          clear c31
          have H' := AZ.mk H
          clear H
          go_wp2
          go_roundg k4
          case measure => have := HJ1.out; have := HK2.out; have := HJ18.out; have := HK4.out; omega
          case rel => exact ⟨(wrap64 (x4_2 + 1)), (by first | rfl | (simp; done) | (simp [*]; done)), H', ⟨by have := HJ1.out; have := HK2.out; have := HJ18.out; have := HK4.out; omega⟩, ⟨by (with_reducible repeat (first | refine bn_ ?_ _ | refine bd_ ?_ | refine ba_ ?_ _)); exact BK0.out⟩, ⟨by repeat (first | (with_reducible first | exact HB.out | apply pA | apply pN | apply pD | refine pS ?_ GE0.out) | exact HB.out)⟩⟩
         rw [if_pos c31] at H
         have c31b0 : decide (x5_4 < 2) = true := dT c31
         clear c31
         have HC32 := AZ.mk H
         clear H
         go_upto_region 12 with (fail)
         go_cut [154] (fun v154 wc => ∃ (kq : Nat) (x154_31 : Bool), v154 = .bool x154_31 ∧ AZ (spec_l02Ok.j4 kq (l0_2.length : Int) x4_2 x5_4 x154_31 a0_0 a0_1 l0_2 l0_3 l0_4 l0_5 = some r) ∧ AZ (kq ≤ k4) ∧ AZ (wc.heap[g0_]? = some (.cells #[.int .i64 a0_0, .int .i64 a0_1, (.slice A0_2 l0_2.length c0_2), (.slice A0_3 l0_3.length c0_3), (.slice A0_4 l0_4.length c0_4), (.slice A0_5 l0_5.length c0_5)] 27 (0, 0))) ∧ AZ (Below w.heap.size w wc))
         case first =>
          have H := HC32.out
          clear HC32
          by_cases c33 : 0 ≤ x4_2
          rotate_left
          ·rw [if_neg c33] at H
           exact absurd H (by simp)
          rw [if_pos c33] at H
          have c33b0 : decide (0 ≤ x4_2) = true := dT c33
          clear c33
          (first | rw [c33b0] | rw [c33b1] | (simp only [i64_w, i32_w]; rw [c33b0]) | skip)
          by_cases c34 : x4_2 < (l0_3.length : Int)
          rotate_left
          ·rw [if_neg c34] at H
           exact absurd H (by simp)
          rw [if_pos c34] at H
          have c34b0 : decide (x4_2 < (l0_3.length : Int)) = true := dT c34
          clear c34
          by_cases c35 : 0 ≤ x5_4
          rotate_left
          ·rw [if_neg c35] at H
           exact absurd H (by simp)
          rw [if_pos c35] at H
          have c35b0 : decide (0 ≤ x5_4) = true := dT c35
          clear c35
          by_cases c36 : x5_4 < ((Zd l0_3 x4_2).length : Int)
          rotate_left
          ·rw [if_neg c36] at H
           exact absurd H (by simp)
          rw [if_pos c36] at H
          have c36b0 : decide (x5_4 < ((Zd l0_3 x4_2).length : Int)) = true := dT c36
          clear c36
          replace H := Option.bind_eq_some_iff.mp H
          obtain ⟨t336, A370, H⟩ := H
          replace H : (if t336 = true then ((spec_l00In.f ((Zb (Zd l0_3 x4_2) x5_4).f1) 0 (wrap64 (a0_0 - 1))).bind fun t339 => (if t339 = true then (if x4_2 < (l0_4.length : Int) then (if x5_4 < ((rd_L5 l0_4 x4_2).length : Int) then ((spec_l02List.f k4 (rd_L4 (rd_L5 l0_4 x4_2) x5_4) (wrap64 (a0_0 + 1)) (l0_2.length : Int)).bind fun t342 => (spec_l02Ok.j4 k4 (l0_2.length : Int) x4_2 x5_4 (!t342) a0_0 a0_1 l0_2 l0_3 l0_4 l0_5)) else (none)) else (none)) else (spec_l02Ok.j4 k4 (l0_2.length : Int) x4_2 x5_4 true a0_0 a0_1 l0_2 l0_3 l0_4 l0_5))) else (spec_l02Ok.j4 k4 (l0_2.length : Int) x4_2 x5_4 true a0_0 a0_1 l0_2 l0_3 l0_4 l0_5)) = some r := H
          have A37 := AZ.mk A370
          clear A370
          by_cases c38 : t336 = true
          rotate_left
          ·replace c38 := Bool.eq_false_iff.mpr c38
           subst c38
           have H1 : (spec_l02Ok.j4 k4 (l0_2.length : Int) x4_2 x5_4 true a0_0 a0_1 l0_2 l0_3 l0_4 l0_5) = some r := by rw [if_neg (show ¬ (false = true) by decide)] at H; exact H
           clear H
           have H := H1
           clear H1
           have H' := AZ.mk H
           clear H
           try go_wp2
           have n0_ := AZ.mk (bd_ BK0.out)
           have n1_ := AZ.mk (pD HB.out)
           clear BK0
           clear HB
           have BK0 := n0_
           have HB := n1_
           clear n0_ n1_
           have p334 : 0 ≤ (x4_2 : Int) := oT (by first | (with_reducible assumption) | assumption)
           have q334 : x4_2 < (l0_3.length : Int) := oT (by first | (with_reducible assumption) | assumption)
           obtain ⟨ad334, A334_0, c334_0, e334, hx334_0, hl334_0, hi334_0⟩ := at_L3 HR0_3.out x4_2 p334 q334
           have hw334_0 := hx334_0
           cases e334
           replace hx334_0 := (HB.out.cell (World.block_lt_of_cell? w _ hx334_0)).trans hx334_0
           have HR334_0 := AZ.mk hi334_0
           have HC334_0 := AZ.mk hl334_0
           clear hi334_0 hl334_0
           replace p334 := eq_true p334
           replace q334 := eq_true q334
           have p335 : 0 ≤ (x5_4 : Int) := oT (by first | (with_reducible assumption) | assumption)
           have q335 : x5_4 < ((Zd l0_3 x4_2).length : Int) := oT (by first | (with_reducible assumption) | assumption)
           obtain ⟨ad335, e335, hx335_0, hx335_1⟩ := at_T47 HR334_0.out x5_4 p335 q335
           have hw335_1 := hx335_1
           have hw335_0 := hx335_0
           cases e335
           replace hx335_0 := (HB.out.cell (World.block_lt_of_cell? w _ hx335_0)).trans hx335_0
           replace hx335_1 := (HB.out.cell (World.block_lt_of_cell? w _ hx335_1)).trans hx335_1
           replace p335 := eq_true p335
           replace q335 := eq_true q335
           refine start_ (n := 55) (S := fun w' => w'.cell? ⟨g0_, 0, none⟩ = some (.int .i64 a0_0) ∧ w'.cell? ⟨g0_, 1, none⟩ = some (.int .i64 a0_1) ∧ w'.cell? ⟨g0_, 2, none⟩ = some (.slice A0_2 l0_2.length c0_2) ∧ w'.cell? ⟨g0_, 3, none⟩ = some (.slice (some ad334) l0_3.length c0_3) ∧ w'.cell? ⟨g0_, 4, none⟩ = some (.slice A0_4 l0_4.length c0_4) ∧ w'.cell? ⟨g0_, 5, none⟩ = some (.slice A0_5 l0_5.length c0_5) ∧ w'.cell? (ad334.add (x4_2).toNat) = some (.slice (some ad335) (Zd l0_3 x4_2).length c334_0) ∧ w'.cell? (ad335.add ((x5_4).toNat * 2)) = some (.int .i64 ((Zb (Zd l0_3 x4_2) x5_4).f0)) ∧ w'.cell? ⟨(ad335.add ((x5_4).toNat * 2)).block, (ad335.add ((x5_4).toNat * 2)).off + 1, none⟩ = some (.int .i64 ((Zb (Zd l0_3 x4_2) x5_4).f1))) (ds := []) (bz 55 0) (by kernel_rfl) rfl rfl ⟨(bc BK0.out 0).trans rfl, (bc BK0.out 1).trans rfl, (bc BK0.out 2).trans rfl, (bc BK0.out 3).trans rfl, (bc BK0.out 4).trans rfl, (bc BK0.out 5).trans rfl, ((HB.out.cell (World.block_lt_of_cell? w _ hw334_0)).trans hw334_0), ((HB.out.cell (World.block_lt_of_cell? w _ hw335_0)).trans hw335_0), ((HB.out.cell (World.block_lt_of_cell? w _ hw335_1)).trans hw335_1)⟩ (fun hHeld => ?_); refine Yh spec_l02Ok.tab12 spec_l02Ok.bits12 (fun HT_ HW_ => ?_)
           generalize wr.drew = w46 at BK0 HB HR334_0 hx334_0 hx335_0 hx335_1 hHeld ⊢
           iterate 13 (first | (refine pz_ HT_ spec_l02Ok.cz0 rfl rfl rfl (v := ?_) (a' := ?_) (by kernel_rfl) (fun _ _ _ h => h) (Or.inl ⟨by rfl, ?_⟩) ?_ ?_; rotate_left; (intro w'; go_simp; with_reducible rfl); rotate_left; (simp only [Act.put, sA, sB, sC, i64_w, i32_w]; rfl)) | (refine tz_ HT_ HW_ spec_l02Ok.cz0 rfl rfl rfl (v := ?_) (a' := ?_) (by kernel_rfl) (fun _ _ _ h => h) (Or.inl ⟨by rfl, ?_⟩) hHeld ?_ ?_; rotate_left; (rintro w' ⟨s0, s1, s2, s3, s4, s5, s6, s7, s8⟩; go_simp; with_reducible rfl); rotate_left; (simp only [Act.put, sA, sB, sC, i64_w, i32_w]; rfl)))
           refine one_ (i := 13) (N := some 113) (bz 55 16383) rfl rfl (one_of HT_.out (by kernel_rfl)) (by decide) (fun K hK => ?_)
           refine goes_ Try.func50 (by kernel_rfl) rfl #[.int .i64 ((Zb (Zd l0_3 x4_2) x5_4).f0), .int .i64 0, .int .i64 (wrap64 ((l0_2.length : Int) - 1))] (by rfl) rfl rfl (by (try simp only [mA, mB, mC]); first | done | rfl | (simp only [lD, lT]; rfl)) ?_
           with_reducible refine (spec_l00In.calls ((Zb (Zd l0_3 x4_2) x5_4).f0) 0 (wrap64 ((l0_2.length : Int) - 1)) false _ A37.out).mono ?_
           rintro e w' ⟨rfl, ⟨nd, rfl⟩⟩
           refine ⟨_, rfl, ?_⟩
           refine hK.out _ _ ⟨(bc BK0.out 0).trans rfl, (bc BK0.out 1).trans rfl, (bc BK0.out 2).trans rfl, (bc BK0.out 3).trans rfl, (bc BK0.out 4).trans rfl, (bc BK0.out 5).trans rfl, ((HB.out.cell (World.block_lt_of_cell? w _ hw334_0)).trans hw334_0), ((HB.out.cell (World.block_lt_of_cell? w _ hw335_0)).trans hw335_0), ((HB.out.cell (World.block_lt_of_cell? w _ hw335_1)).trans hw335_1)⟩ (fun hHeld => ?_)
           clear hK K
           refine norm_ (a' := ?_) ?_ ?_
           rotate_left
           ·show Act.put _ (some 113) _ = _
            simp only [Act.put, sA, sB, sC, i64_w, i32_w]
            rfl
           iterate 41 (first | (refine pz_ HT_ spec_l02Ok.cz5 rfl rfl rfl (v := ?_) (a' := ?_) (by kernel_rfl) (fun _ _ _ h => h) (Or.inl ⟨by rfl, ?_⟩) ?_ ?_; rotate_left; (intro w'; go_simp; with_reducible rfl); rotate_left; (simp only [Act.put, sA, sB, sC, i64_w, i32_w]; rfl)) | (refine uz_ HT_ spec_l02Ok.cz5 rfl rfl rfl (v := undef) (a' := ?_) (by kernel_rfl) (fun _ _ _ h => h) (Or.inr ⟨by rfl, rfl⟩) ?_ ?_; rotate_left; (simp only [Act.put, sA, sB, sC, i64_w, i32_w]; rfl)))
           refine done_ (done_of HT_.out (by kernel_rfl)) ?_
           try go_wp2
           go_meet
           case rel => exact ⟨_, (true), (by first | rfl | (simp; done) | (simp [*]; done)), H', ⟨by have := HJ1.out; have := HK2.out; have := HJ18.out; have := HK4.out; first | omega | exact Nat.le_refl _⟩, ⟨by (with_reducible repeat (first | refine bn_ ?_ _ | refine bd_ ?_ | refine ba_ ?_ _)); exact BK0.out⟩, ⟨by repeat (first | (with_reducible first | exact HB.out | apply pA | apply pN | apply pD | refine pS ?_ GE0.out) | exact HB.out)⟩⟩
          subst c38
          have H1 : ((spec_l00In.f ((Zb (Zd l0_3 x4_2) x5_4).f1) 0 (wrap64 (a0_0 - 1))).bind fun t339 => (if t339 = true then (if x4_2 < (l0_4.length : Int) then (if x5_4 < ((rd_L5 l0_4 x4_2).length : Int) then ((spec_l02List.f k4 (rd_L4 (rd_L5 l0_4 x4_2) x5_4) (wrap64 (a0_0 + 1)) (l0_2.length : Int)).bind fun t342 => (spec_l02Ok.j4 k4 (l0_2.length : Int) x4_2 x5_4 (!t342) a0_0 a0_1 l0_2 l0_3 l0_4 l0_5)) else (none)) else (none)) else (spec_l02Ok.j4 k4 (l0_2.length : Int) x4_2 x5_4 true a0_0 a0_1 l0_2 l0_3 l0_4 l0_5))) = some r := by rw [if_pos rfl] at H; exact H
          clear H
          have H := H1
          clear H1
          replace H := Option.bind_eq_some_iff.mp H
          obtain ⟨t339, A390, H⟩ := H
          replace H : (if t339 = true then (if x4_2 < (l0_4.length : Int) then (if x5_4 < ((rd_L5 l0_4 x4_2).length : Int) then ((spec_l02List.f k4 (rd_L4 (rd_L5 l0_4 x4_2) x5_4) (wrap64 (a0_0 + 1)) (l0_2.length : Int)).bind fun t342 => (spec_l02Ok.j4 k4 (l0_2.length : Int) x4_2 x5_4 (!t342) a0_0 a0_1 l0_2 l0_3 l0_4 l0_5)) else (none)) else (none)) else (spec_l02Ok.j4 k4 (l0_2.length : Int) x4_2 x5_4 true a0_0 a0_1 l0_2 l0_3 l0_4 l0_5)) = some r := H
          have A39 := AZ.mk A390
          clear A390
          by_cases c40 : t339 = true
          rotate_left
          ·replace c40 := Bool.eq_false_iff.mpr c40
           subst c40
           have H1 : (spec_l02Ok.j4 k4 (l0_2.length : Int) x4_2 x5_4 true a0_0 a0_1 l0_2 l0_3 l0_4 l0_5) = some r := by rw [if_neg (show ¬ (false = true) by decide)] at H; exact H
           clear H
           have H := H1
           clear H1
           have H' := AZ.mk H
           clear H
           try go_wp2
           have n0_ := AZ.mk (bd_ BK0.out)
           have n1_ := AZ.mk (pD HB.out)
           clear BK0
           clear HB
           have BK0 := n0_
           have HB := n1_
           clear n0_ n1_
           have p334 : 0 ≤ (x4_2 : Int) := oT (by first | (with_reducible assumption) | assumption)
           have q334 : x4_2 < (l0_3.length : Int) := oT (by first | (with_reducible assumption) | assumption)
           obtain ⟨ad334, A334_0, c334_0, e334, hx334_0, hl334_0, hi334_0⟩ := at_L3 HR0_3.out x4_2 p334 q334
           have hw334_0 := hx334_0
           cases e334
           replace hx334_0 := (HB.out.cell (World.block_lt_of_cell? w _ hx334_0)).trans hx334_0
           have HR334_0 := AZ.mk hi334_0
           have HC334_0 := AZ.mk hl334_0
           clear hi334_0 hl334_0
           replace p334 := eq_true p334
           replace q334 := eq_true q334
           have p335 : 0 ≤ (x5_4 : Int) := oT (by first | (with_reducible assumption) | assumption)
           have q335 : x5_4 < ((Zd l0_3 x4_2).length : Int) := oT (by first | (with_reducible assumption) | assumption)
           obtain ⟨ad335, e335, hx335_0, hx335_1⟩ := at_T47 HR334_0.out x5_4 p335 q335
           have hw335_1 := hx335_1
           have hw335_0 := hx335_0
           cases e335
           replace hx335_0 := (HB.out.cell (World.block_lt_of_cell? w _ hx335_0)).trans hx335_0
           replace hx335_1 := (HB.out.cell (World.block_lt_of_cell? w _ hx335_1)).trans hx335_1
           replace p335 := eq_true p335
           replace q335 := eq_true q335
           have p337 : 0 ≤ (x4_2 : Int) := oT (by first | (with_reducible assumption) | assumption)
           have q337 : x4_2 < (l0_3.length : Int) := oT (by first | (with_reducible assumption) | assumption)
           obtain ⟨ad337, A337_0, c337_0, e337, hx337_0, hl337_0, hi337_0⟩ := at_L3 HR0_3.out x4_2 p337 q337
           have hw337_0 := hx337_0
           obtain rfl : ad334 = ad337 := (by injection e337)
           replace hx337_0 := (HB.out.cell (World.block_lt_of_cell? w _ hx337_0)).trans hx337_0
           have HR337_0 := AZ.mk hi337_0
           have HC337_0 := AZ.mk hl337_0
           clear hi337_0 hl337_0
           replace p337 := eq_true p337
           replace q337 := eq_true q337
           have ea_ := oJ (hx334_0.symm.trans hx337_0)
           injection ea_ with ea_ en_ ec_
           subst ea_
           subst ec_
           clear en_
           have p338 : 0 ≤ (x5_4 : Int) := oT (by first | (with_reducible assumption) | assumption)
           have q338 : x5_4 < ((Zd l0_3 x4_2).length : Int) := oT (by first | (with_reducible assumption) | assumption)
           obtain ⟨ad338, e338, hx338_0, hx338_1⟩ := at_T47 HR337_0.out x5_4 p338 q338
           have hw338_1 := hx338_1
           have hw338_0 := hx338_0
           obtain rfl : ad335 = ad338 := (by injection e338)
           replace hx338_0 := (HB.out.cell (World.block_lt_of_cell? w _ hx338_0)).trans hx338_0
           replace hx338_1 := (HB.out.cell (World.block_lt_of_cell? w _ hx338_1)).trans hx338_1
           replace p338 := eq_true p338
           replace q338 := eq_true q338
           refine start_ (n := 55) (S := fun w' => w'.cell? ⟨g0_, 0, none⟩ = some (.int .i64 a0_0) ∧ w'.cell? ⟨g0_, 1, none⟩ = some (.int .i64 a0_1) ∧ w'.cell? ⟨g0_, 2, none⟩ = some (.slice A0_2 l0_2.length c0_2) ∧ w'.cell? ⟨g0_, 3, none⟩ = some (.slice (some ad334) l0_3.length c0_3) ∧ w'.cell? ⟨g0_, 4, none⟩ = some (.slice A0_4 l0_4.length c0_4) ∧ w'.cell? ⟨g0_, 5, none⟩ = some (.slice A0_5 l0_5.length c0_5) ∧ w'.cell? (ad334.add (x4_2).toNat) = some (.slice (some ad335) (Zd l0_3 x4_2).length c334_0) ∧ w'.cell? (ad335.add ((x5_4).toNat * 2)) = some (.int .i64 ((Zb (Zd l0_3 x4_2) x5_4).f0)) ∧ w'.cell? ⟨(ad335.add ((x5_4).toNat * 2)).block, (ad335.add ((x5_4).toNat * 2)).off + 1, none⟩ = some (.int .i64 ((Zb (Zd l0_3 x4_2) x5_4).f1)) ∧ w'.cell? (ad334.add (x4_2).toNat) = some (.slice (some ad335) (Zd l0_3 x4_2).length c334_0) ∧ w'.cell? (ad335.add ((x5_4).toNat * 2)) = some (.int .i64 ((Zb (Zd l0_3 x4_2) x5_4).f0)) ∧ w'.cell? ⟨(ad335.add ((x5_4).toNat * 2)).block, (ad335.add ((x5_4).toNat * 2)).off + 1, none⟩ = some (.int .i64 ((Zb (Zd l0_3 x4_2) x5_4).f1))) (ds := []) (bz 55 0) (by kernel_rfl) rfl rfl ⟨(bc BK0.out 0).trans rfl, (bc BK0.out 1).trans rfl, (bc BK0.out 2).trans rfl, (bc BK0.out 3).trans rfl, (bc BK0.out 4).trans rfl, (bc BK0.out 5).trans rfl, ((HB.out.cell (World.block_lt_of_cell? w _ hw334_0)).trans hw334_0), ((HB.out.cell (World.block_lt_of_cell? w _ hw335_0)).trans hw335_0), ((HB.out.cell (World.block_lt_of_cell? w _ hw335_1)).trans hw335_1), ((HB.out.cell (World.block_lt_of_cell? w _ hw337_0)).trans hw337_0), ((HB.out.cell (World.block_lt_of_cell? w _ hw338_0)).trans hw338_0), ((HB.out.cell (World.block_lt_of_cell? w _ hw338_1)).trans hw338_1)⟩ (fun hHeld => ?_); refine Yh spec_l02Ok.tab12 spec_l02Ok.bits12 (fun HT_ HW_ => ?_)
           generalize wr.drew = w45 at BK0 HB HR334_0 HR337_0 hx334_0 hx335_0 hx335_1 hx337_0 hx338_0 hx338_1 hHeld ⊢
           iterate 13 (first | (refine pz_ HT_ spec_l02Ok.cz0 rfl rfl rfl (v := ?_) (a' := ?_) (by kernel_rfl) (fun _ _ _ h => h) (Or.inl ⟨by rfl, ?_⟩) ?_ ?_; rotate_left; (intro w'; go_simp; with_reducible rfl); rotate_left; (simp only [Act.put, sA, sB, sC, i64_w, i32_w]; rfl)) | (refine tz_ HT_ HW_ spec_l02Ok.cz0 rfl rfl rfl (v := ?_) (a' := ?_) (by kernel_rfl) (fun _ _ _ h => h) (Or.inl ⟨by rfl, ?_⟩) hHeld ?_ ?_; rotate_left; (rintro w' ⟨s0, s1, s2, s3, s4, s5, s6, s7, s8, s9, s10, s11⟩; go_simp; with_reducible rfl); rotate_left; (simp only [Act.put, sA, sB, sC, i64_w, i32_w]; rfl)))
           refine one_ (i := 13) (N := some 113) (bz 55 16383) rfl rfl (one_of HT_.out (by kernel_rfl)) (by decide) (fun K hK => ?_)
           refine goes_ Try.func50 (by kernel_rfl) rfl #[.int .i64 ((Zb (Zd l0_3 x4_2) x5_4).f0), .int .i64 0, .int .i64 (wrap64 ((l0_2.length : Int) - 1))] (by rfl) rfl rfl (by (try simp only [mA, mB, mC]); first | done | rfl | (simp only [lD, lT]; rfl)) ?_
           with_reducible refine (spec_l00In.calls ((Zb (Zd l0_3 x4_2) x5_4).f0) 0 (wrap64 ((l0_2.length : Int) - 1)) true _ A37.out).mono ?_
           rintro e w' ⟨rfl, ⟨nd, rfl⟩⟩
           refine ⟨_, rfl, ?_⟩
           refine hK.out _ _ ⟨(bc BK0.out 0).trans rfl, (bc BK0.out 1).trans rfl, (bc BK0.out 2).trans rfl, (bc BK0.out 3).trans rfl, (bc BK0.out 4).trans rfl, (bc BK0.out 5).trans rfl, ((HB.out.cell (World.block_lt_of_cell? w _ hw334_0)).trans hw334_0), ((HB.out.cell (World.block_lt_of_cell? w _ hw335_0)).trans hw335_0), ((HB.out.cell (World.block_lt_of_cell? w _ hw335_1)).trans hw335_1), ((HB.out.cell (World.block_lt_of_cell? w _ hw337_0)).trans hw337_0), ((HB.out.cell (World.block_lt_of_cell? w _ hw338_0)).trans hw338_0), ((HB.out.cell (World.block_lt_of_cell? w _ hw338_1)).trans hw338_1)⟩ (fun hHeld => ?_)
           clear hK K
           refine norm_ (a' := ?_) ?_ ?_
           rotate_left
           ·show Act.put _ (some 113) _ = _
            simp only [Act.put, sA, sB, sC, i64_w, i32_w]
            rfl
           iterate 18 (first | (refine pz_ HT_ spec_l02Ok.cz1 rfl rfl rfl (v := ?_) (a' := ?_) (by kernel_rfl) (fun _ _ _ h => h) (Or.inl ⟨by rfl, ?_⟩) ?_ ?_; rotate_left; (intro w'; go_simp; with_reducible rfl); rotate_left; (simp only [Act.put, sA, sB, sC, i64_w, i32_w]; rfl)) | (refine tz_ HT_ HW_ spec_l02Ok.cz1 rfl rfl rfl (v := ?_) (a' := ?_) (by kernel_rfl) (fun _ _ _ h => h) (Or.inl ⟨by rfl, ?_⟩) hHeld ?_ ?_; rotate_left; (rintro w' ⟨s0, s1, s2, s3, s4, s5, s6, s7, s8, s9, s10, s11⟩; go_simp; with_reducible rfl); rotate_left; (simp only [Act.put, sA, sB, sC, i64_w, i32_w]; rfl)))
           refine one_ (i := 32) (N := some 132) (bz 55 8589934591) rfl rfl (one_of HT_.out (by kernel_rfl)) (by decide) (fun K hK => ?_)
           refine goes_ Try.func50 (by kernel_rfl) rfl #[.int .i64 ((Zb (Zd l0_3 x4_2) x5_4).f1), .int .i64 0, .int .i64 (wrap64 (a0_0 - 1))] (by rfl) rfl rfl (by (try simp only [mA, mB, mC]); first | done | rfl | (simp only [lD, lT]; rfl)) ?_
           with_reducible refine (spec_l00In.calls ((Zb (Zd l0_3 x4_2) x5_4).f1) 0 (wrap64 (a0_0 - 1)) false _ A39.out).mono ?_
           rintro e w' ⟨rfl, ⟨nd, rfl⟩⟩
           refine ⟨_, rfl, ?_⟩
           refine hK.out _ _ ⟨(bc BK0.out 0).trans rfl, (bc BK0.out 1).trans rfl, (bc BK0.out 2).trans rfl, (bc BK0.out 3).trans rfl, (bc BK0.out 4).trans rfl, (bc BK0.out 5).trans rfl, ((HB.out.cell (World.block_lt_of_cell? w _ hw334_0)).trans hw334_0), ((HB.out.cell (World.block_lt_of_cell? w _ hw335_0)).trans hw335_0), ((HB.out.cell (World.block_lt_of_cell? w _ hw335_1)).trans hw335_1), ((HB.out.cell (World.block_lt_of_cell? w _ hw337_0)).trans hw337_0), ((HB.out.cell (World.block_lt_of_cell? w _ hw338_0)).trans hw338_0), ((HB.out.cell (World.block_lt_of_cell? w _ hw338_1)).trans hw338_1)⟩ (fun hHeld => ?_)
           clear hK K
           refine norm_ (a' := ?_) ?_ ?_
           rotate_left
           ·show Act.put _ (some 132) _ = _
            simp only [Act.put, sA, sB, sC, i64_w, i32_w]
            rfl
           iterate 22 (first | (refine pz_ HT_ spec_l02Ok.cz4 rfl rfl rfl (v := ?_) (a' := ?_) (by kernel_rfl) (fun _ _ _ h => h) (Or.inl ⟨by rfl, ?_⟩) ?_ ?_; rotate_left; (intro w'; go_simp; with_reducible rfl); rotate_left; (simp only [Act.put, sA, sB, sC, i64_w, i32_w]; rfl)) | (refine uz_ HT_ spec_l02Ok.cz4 rfl rfl rfl (v := undef) (a' := ?_) (by kernel_rfl) (fun _ _ _ h => h) (Or.inr ⟨by rfl, rfl⟩) ?_ ?_; rotate_left; (simp only [Act.put, sA, sB, sC, i64_w, i32_w]; rfl)))
           refine done_ (done_of HT_.out (by kernel_rfl)) ?_
           try go_wp2
           go_meet
           case rel => exact ⟨_, (true), (by first | rfl | (simp; done) | (simp [*]; done)), H', ⟨by have := HJ1.out; have := HK2.out; have := HJ18.out; have := HK4.out; first | omega | exact Nat.le_refl _⟩, ⟨by (with_reducible repeat (first | refine bn_ ?_ _ | refine bd_ ?_ | refine ba_ ?_ _)); exact BK0.out⟩, ⟨by repeat (first | (with_reducible first | exact HB.out | apply pA | apply pN | apply pD | refine pS ?_ GE0.out) | exact HB.out)⟩⟩
          subst c40
          have H1 : (if x4_2 < (l0_4.length : Int) then (if x5_4 < ((rd_L5 l0_4 x4_2).length : Int) then ((spec_l02List.f k4 (rd_L4 (rd_L5 l0_4 x4_2) x5_4) (wrap64 (a0_0 + 1)) (l0_2.length : Int)).bind fun t342 => (spec_l02Ok.j4 k4 (l0_2.length : Int) x4_2 x5_4 (!t342) a0_0 a0_1 l0_2 l0_3 l0_4 l0_5)) else (none)) else (none)) = some r := by rw [if_pos rfl] at H; exact H
          clear H
          have H := H1
          clear H1
          by_cases c41 : x4_2 < (l0_4.length : Int)
          rotate_left
          ·rw [if_neg c41] at H
           exact absurd H (by simp)
          rw [if_pos c41] at H
          have c41b0 : decide (x4_2 < (l0_4.length : Int)) = true := dT c41
          clear c41
          by_cases c42 : x5_4 < ((rd_L5 l0_4 x4_2).length : Int)
          rotate_left
          ·rw [if_neg c42] at H
           exact absurd H (by simp)
          rw [if_pos c42] at H
          have c42b0 : decide (x5_4 < ((rd_L5 l0_4 x4_2).length : Int)) = true := dT c42
          clear c42
          replace H := Option.bind_eq_some_iff.mp H
          obtain ⟨t342, A430, H⟩ := H
          replace H : (spec_l02Ok.j4 k4 (l0_2.length : Int) x4_2 x5_4 (!t342) a0_0 a0_1 l0_2 l0_3 l0_4 l0_5) = some r := H
          have A43 := AZ.mk A430
          clear A430
          have H' := AZ.mk H
          clear H
          try go_wp2
          have n0_ := AZ.mk (bd_ BK0.out)
          have n1_ := AZ.mk (pD HB.out)
          clear BK0
          clear HB
          have BK0 := n0_
          have HB := n1_
          clear n0_ n1_
          have p334 : 0 ≤ (x4_2 : Int) := oT (by first | (with_reducible assumption) | assumption)
          have q334 : x4_2 < (l0_3.length : Int) := oT (by first | (with_reducible assumption) | assumption)
          obtain ⟨ad334, A334_0, c334_0, e334, hx334_0, hl334_0, hi334_0⟩ := at_L3 HR0_3.out x4_2 p334 q334
          have hw334_0 := hx334_0
          cases e334
          replace hx334_0 := (HB.out.cell (World.block_lt_of_cell? w _ hx334_0)).trans hx334_0
          have HR334_0 := AZ.mk hi334_0
          have HC334_0 := AZ.mk hl334_0
          clear hi334_0 hl334_0
          replace p334 := eq_true p334
          replace q334 := eq_true q334
          have p335 : 0 ≤ (x5_4 : Int) := oT (by first | (with_reducible assumption) | assumption)
          have q335 : x5_4 < ((Zd l0_3 x4_2).length : Int) := oT (by first | (with_reducible assumption) | assumption)
          obtain ⟨ad335, e335, hx335_0, hx335_1⟩ := at_T47 HR334_0.out x5_4 p335 q335
          have hw335_1 := hx335_1
          have hw335_0 := hx335_0
          cases e335
          replace hx335_0 := (HB.out.cell (World.block_lt_of_cell? w _ hx335_0)).trans hx335_0
          replace hx335_1 := (HB.out.cell (World.block_lt_of_cell? w _ hx335_1)).trans hx335_1
          replace p335 := eq_true p335
          replace q335 := eq_true q335
          have p337 : 0 ≤ (x4_2 : Int) := oT (by first | (with_reducible assumption) | assumption)
          have q337 : x4_2 < (l0_3.length : Int) := oT (by first | (with_reducible assumption) | assumption)
          obtain ⟨ad337, A337_0, c337_0, e337, hx337_0, hl337_0, hi337_0⟩ := at_L3 HR0_3.out x4_2 p337 q337
          have hw337_0 := hx337_0
          obtain rfl : ad334 = ad337 := (by injection e337)
          replace hx337_0 := (HB.out.cell (World.block_lt_of_cell? w _ hx337_0)).trans hx337_0
          have HR337_0 := AZ.mk hi337_0
          have HC337_0 := AZ.mk hl337_0
          clear hi337_0 hl337_0
          replace p337 := eq_true p337
          replace q337 := eq_true q337
          have ea_ := oJ (hx334_0.symm.trans hx337_0)
          injection ea_ with ea_ en_ ec_
          subst ea_
          subst ec_
          clear en_
          have p338 : 0 ≤ (x5_4 : Int) := oT (by first | (with_reducible assumption) | assumption)
          have q338 : x5_4 < ((Zd l0_3 x4_2).length : Int) := oT (by first | (with_reducible assumption) | assumption)
          obtain ⟨ad338, e338, hx338_0, hx338_1⟩ := at_T47 HR337_0.out x5_4 p338 q338
          have hw338_1 := hx338_1
          have hw338_0 := hx338_0
          obtain rfl : ad335 = ad338 := (by injection e338)
          replace hx338_0 := (HB.out.cell (World.block_lt_of_cell? w _ hx338_0)).trans hx338_0
          replace hx338_1 := (HB.out.cell (World.block_lt_of_cell? w _ hx338_1)).trans hx338_1
          replace p338 := eq_true p338
          replace q338 := eq_true q338
          have p340 : 0 ≤ (x4_2 : Int) := oT (by first | (with_reducible assumption) | assumption)
          have q340 : x4_2 < (l0_4.length : Int) := oT (by first | (with_reducible assumption) | assumption)
          obtain ⟨ad340, A340_0, c340_0, e340, hx340_0, hl340_0, hi340_0⟩ := at_L5 HR0_4.out x4_2 p340 q340
          have hw340_0 := hx340_0
          cases e340
          replace hx340_0 := (HB.out.cell (World.block_lt_of_cell? w _ hx340_0)).trans hx340_0
          have HR340_0 := AZ.mk hi340_0
          have HC340_0 := AZ.mk hl340_0
          clear hi340_0 hl340_0
          replace p340 := eq_true p340
          replace q340 := eq_true q340
          have p341 : 0 ≤ (x5_4 : Int) := oT (by first | (with_reducible assumption) | assumption)
          have q341 : x5_4 < ((rd_L5 l0_4 x4_2).length : Int) := oT (by first | (with_reducible assumption) | assumption)
          obtain ⟨ad341, A341_0, c341_0, e341, hx341_0, hl341_0, hi341_0⟩ := at_L4 HR340_0.out x5_4 p341 q341
          have hw341_0 := hx341_0
          cases e341
          replace hx341_0 := (HB.out.cell (World.block_lt_of_cell? w _ hx341_0)).trans hx341_0
          have HR341_0 := AZ.mk hi341_0
          have HC341_0 := AZ.mk hl341_0
          clear hi341_0 hl341_0
          replace p341 := eq_true p341
          replace q341 := eq_true q341
          refine start_ (n := 55) (S := fun w' => w'.cell? ⟨g0_, 0, none⟩ = some (.int .i64 a0_0) ∧ w'.cell? ⟨g0_, 1, none⟩ = some (.int .i64 a0_1) ∧ w'.cell? ⟨g0_, 2, none⟩ = some (.slice A0_2 l0_2.length c0_2) ∧ w'.cell? ⟨g0_, 3, none⟩ = some (.slice (some ad334) l0_3.length c0_3) ∧ w'.cell? ⟨g0_, 4, none⟩ = some (.slice (some ad340) l0_4.length c0_4) ∧ w'.cell? ⟨g0_, 5, none⟩ = some (.slice A0_5 l0_5.length c0_5) ∧ w'.cell? (ad334.add (x4_2).toNat) = some (.slice (some ad335) (Zd l0_3 x4_2).length c334_0) ∧ w'.cell? (ad335.add ((x5_4).toNat * 2)) = some (.int .i64 ((Zb (Zd l0_3 x4_2) x5_4).f0)) ∧ w'.cell? ⟨(ad335.add ((x5_4).toNat * 2)).block, (ad335.add ((x5_4).toNat * 2)).off + 1, none⟩ = some (.int .i64 ((Zb (Zd l0_3 x4_2) x5_4).f1)) ∧ w'.cell? (ad334.add (x4_2).toNat) = some (.slice (some ad335) (Zd l0_3 x4_2).length c334_0) ∧ w'.cell? (ad335.add ((x5_4).toNat * 2)) = some (.int .i64 ((Zb (Zd l0_3 x4_2) x5_4).f0)) ∧ w'.cell? ⟨(ad335.add ((x5_4).toNat * 2)).block, (ad335.add ((x5_4).toNat * 2)).off + 1, none⟩ = some (.int .i64 ((Zb (Zd l0_3 x4_2) x5_4).f1)) ∧ w'.cell? (ad340.add (x4_2).toNat) = some (.slice (some ad341) (rd_L5 l0_4 x4_2).length c340_0) ∧ w'.cell? (ad341.add (x5_4).toNat) = some (.slice A341_0 (rd_L4 (rd_L5 l0_4 x4_2) x5_4).length c341_0)) (ds := []) (bz 55 0) (by kernel_rfl) rfl rfl ⟨(bc BK0.out 0).trans rfl, (bc BK0.out 1).trans rfl, (bc BK0.out 2).trans rfl, (bc BK0.out 3).trans rfl, (bc BK0.out 4).trans rfl, (bc BK0.out 5).trans rfl, ((HB.out.cell (World.block_lt_of_cell? w _ hw334_0)).trans hw334_0), ((HB.out.cell (World.block_lt_of_cell? w _ hw335_0)).trans hw335_0), ((HB.out.cell (World.block_lt_of_cell? w _ hw335_1)).trans hw335_1), ((HB.out.cell (World.block_lt_of_cell? w _ hw337_0)).trans hw337_0), ((HB.out.cell (World.block_lt_of_cell? w _ hw338_0)).trans hw338_0), ((HB.out.cell (World.block_lt_of_cell? w _ hw338_1)).trans hw338_1), ((HB.out.cell (World.block_lt_of_cell? w _ hw340_0)).trans hw340_0), ((HB.out.cell (World.block_lt_of_cell? w _ hw341_0)).trans hw341_0)⟩ (fun hHeld => ?_); refine Yh spec_l02Ok.tab12 spec_l02Ok.bits12 (fun HT_ HW_ => ?_)
          generalize wr.drew = w44 at BK0 HB HR334_0 HR337_0 HR340_0 HR341_0 hx334_0 hx335_0 hx335_1 hx337_0 hx338_0 hx338_1 hx340_0 hx341_0 hHeld ⊢
          iterate 13 (first | (refine pz_ HT_ spec_l02Ok.cz0 rfl rfl rfl (v := ?_) (a' := ?_) (by kernel_rfl) (fun _ _ _ h => h) (Or.inl ⟨by rfl, ?_⟩) ?_ ?_; rotate_left; (intro w'; go_simp; with_reducible rfl); rotate_left; (simp only [Act.put, sA, sB, sC, i64_w, i32_w]; rfl)) | (refine tz_ HT_ HW_ spec_l02Ok.cz0 rfl rfl rfl (v := ?_) (a' := ?_) (by kernel_rfl) (fun _ _ _ h => h) (Or.inl ⟨by rfl, ?_⟩) hHeld ?_ ?_; rotate_left; (rintro w' ⟨s0, s1, s2, s3, s4, s5, s6, s7, s8, s9, s10, s11, s12, s13⟩; go_simp; with_reducible rfl); rotate_left; (simp only [Act.put, sA, sB, sC, i64_w, i32_w]; rfl)))
          refine one_ (i := 13) (N := some 113) (bz 55 16383) rfl rfl (one_of HT_.out (by kernel_rfl)) (by decide) (fun K hK => ?_)
          refine goes_ Try.func50 (by kernel_rfl) rfl #[.int .i64 ((Zb (Zd l0_3 x4_2) x5_4).f0), .int .i64 0, .int .i64 (wrap64 ((l0_2.length : Int) - 1))] (by rfl) rfl rfl (by (try simp only [mA, mB, mC]); first | done | rfl | (simp only [lD, lT]; rfl)) ?_
          with_reducible refine (spec_l00In.calls ((Zb (Zd l0_3 x4_2) x5_4).f0) 0 (wrap64 ((l0_2.length : Int) - 1)) true _ A37.out).mono ?_
          rintro e w' ⟨rfl, ⟨nd, rfl⟩⟩
          refine ⟨_, rfl, ?_⟩
          refine hK.out _ _ ⟨(bc BK0.out 0).trans rfl, (bc BK0.out 1).trans rfl, (bc BK0.out 2).trans rfl, (bc BK0.out 3).trans rfl, (bc BK0.out 4).trans rfl, (bc BK0.out 5).trans rfl, ((HB.out.cell (World.block_lt_of_cell? w _ hw334_0)).trans hw334_0), ((HB.out.cell (World.block_lt_of_cell? w _ hw335_0)).trans hw335_0), ((HB.out.cell (World.block_lt_of_cell? w _ hw335_1)).trans hw335_1), ((HB.out.cell (World.block_lt_of_cell? w _ hw337_0)).trans hw337_0), ((HB.out.cell (World.block_lt_of_cell? w _ hw338_0)).trans hw338_0), ((HB.out.cell (World.block_lt_of_cell? w _ hw338_1)).trans hw338_1), ((HB.out.cell (World.block_lt_of_cell? w _ hw340_0)).trans hw340_0), ((HB.out.cell (World.block_lt_of_cell? w _ hw341_0)).trans hw341_0)⟩ (fun hHeld => ?_)
          clear hK K
          refine norm_ (a' := ?_) ?_ ?_
          rotate_left
          ·show Act.put _ (some 113) _ = _
           simp only [Act.put, sA, sB, sC, i64_w, i32_w]
           rfl
          iterate 18 (first | (refine pz_ HT_ spec_l02Ok.cz1 rfl rfl rfl (v := ?_) (a' := ?_) (by kernel_rfl) (fun _ _ _ h => h) (Or.inl ⟨by rfl, ?_⟩) ?_ ?_; rotate_left; (intro w'; go_simp; with_reducible rfl); rotate_left; (simp only [Act.put, sA, sB, sC, i64_w, i32_w]; rfl)) | (refine tz_ HT_ HW_ spec_l02Ok.cz1 rfl rfl rfl (v := ?_) (a' := ?_) (by kernel_rfl) (fun _ _ _ h => h) (Or.inl ⟨by rfl, ?_⟩) hHeld ?_ ?_; rotate_left; (rintro w' ⟨s0, s1, s2, s3, s4, s5, s6, s7, s8, s9, s10, s11, s12, s13⟩; go_simp; with_reducible rfl); rotate_left; (simp only [Act.put, sA, sB, sC, i64_w, i32_w]; rfl)))
          refine one_ (i := 32) (N := some 132) (bz 55 8589934591) rfl rfl (one_of HT_.out (by kernel_rfl)) (by decide) (fun K hK => ?_)
          refine goes_ Try.func50 (by kernel_rfl) rfl #[.int .i64 ((Zb (Zd l0_3 x4_2) x5_4).f1), .int .i64 0, .int .i64 (wrap64 (a0_0 - 1))] (by rfl) rfl rfl (by (try simp only [mA, mB, mC]); first | done | rfl | (simp only [lD, lT]; rfl)) ?_
          with_reducible refine (spec_l00In.calls ((Zb (Zd l0_3 x4_2) x5_4).f1) 0 (wrap64 (a0_0 - 1)) true _ A39.out).mono ?_
          rintro e w' ⟨rfl, ⟨nd, rfl⟩⟩
          refine ⟨_, rfl, ?_⟩
          refine hK.out _ _ ⟨(bc BK0.out 0).trans rfl, (bc BK0.out 1).trans rfl, (bc BK0.out 2).trans rfl, (bc BK0.out 3).trans rfl, (bc BK0.out 4).trans rfl, (bc BK0.out 5).trans rfl, ((HB.out.cell (World.block_lt_of_cell? w _ hw334_0)).trans hw334_0), ((HB.out.cell (World.block_lt_of_cell? w _ hw335_0)).trans hw335_0), ((HB.out.cell (World.block_lt_of_cell? w _ hw335_1)).trans hw335_1), ((HB.out.cell (World.block_lt_of_cell? w _ hw337_0)).trans hw337_0), ((HB.out.cell (World.block_lt_of_cell? w _ hw338_0)).trans hw338_0), ((HB.out.cell (World.block_lt_of_cell? w _ hw338_1)).trans hw338_1), ((HB.out.cell (World.block_lt_of_cell? w _ hw340_0)).trans hw340_0), ((HB.out.cell (World.block_lt_of_cell? w _ hw341_0)).trans hw341_0)⟩ (fun hHeld => ?_)
          clear hK K
          refine norm_ (a' := ?_) ?_ ?_
          rotate_left
          ·show Act.put _ (some 132) _ = _
           simp only [Act.put, sA, sB, sC, i64_w, i32_w]
           rfl
          iterate 19 (first | (refine pz_ HT_ spec_l02Ok.cz2 rfl rfl rfl (v := ?_) (a' := ?_) (by kernel_rfl) (fun _ _ _ h => h) (Or.inl ⟨by rfl, ?_⟩) ?_ ?_; rotate_left; (intro w'; go_simp; with_reducible rfl); rotate_left; (simp only [Act.put, sA, sB, sC, i64_w, i32_w]; rfl)) | (refine tz_ HT_ HW_ spec_l02Ok.cz2 rfl rfl rfl (v := ?_) (a' := ?_) (by kernel_rfl) (fun _ _ _ h => h) (Or.inl ⟨by rfl, ?_⟩) hHeld ?_ ?_; rotate_left; (rintro w' ⟨s0, s1, s2, s3, s4, s5, s6, s7, s8, s9, s10, s11, s12, s13⟩; go_simp; with_reducible rfl); rotate_left; (simp only [Act.put, sA, sB, sC, i64_w, i32_w]; rfl)))
          refine one_ (i := 52) (N := some 152) (bz 55 9007199254740991) rfl rfl (one_of HT_.out (by kernel_rfl)) (by decide) (fun K hK => ?_)
          refine goes_ Try.func93 (by kernel_rfl) rfl #[.slice A341_0 (rd_L4 (rd_L5 l0_4 x4_2) x5_4).length c341_0, .int .i64 (wrap64 (a0_0 + 1)), .int .i64 (l0_2.length : Int)] (by rfl) rfl rfl (by (try simp only [mA, mB, mC]); first | done | rfl | (simp only [lD, lT]; rfl)) ?_
          with_reducible refine (spec_l02List.calls k4 _ _ (rd_L4 (rd_L5 l0_4 x4_2) x5_4) (wrap64 (a0_0 + 1)) (l0_2.length : Int) t342 _ ?side1 ?side2 A43.out).mono ?_
          (case side1 => repeat (first | exact (Kd.C_below HR341_0.out HB.out) | (with_reducible refine Kd.C_alloc ?_ _) | (with_reducible refine Kd.C_drewN ?_ _) | (with_reducible refine Kd.C_drew ?_)))
          (case side2 => exact HC341_0.out)
          rintro e w' ⟨rfl, ⟨nd, rfl⟩⟩
          refine ⟨_, rfl, ?_⟩
          refine hK.out _ _ ⟨(bc BK0.out 0).trans rfl, (bc BK0.out 1).trans rfl, (bc BK0.out 2).trans rfl, (bc BK0.out 3).trans rfl, (bc BK0.out 4).trans rfl, (bc BK0.out 5).trans rfl, ((HB.out.cell (World.block_lt_of_cell? w _ hw334_0)).trans hw334_0), ((HB.out.cell (World.block_lt_of_cell? w _ hw335_0)).trans hw335_0), ((HB.out.cell (World.block_lt_of_cell? w _ hw335_1)).trans hw335_1), ((HB.out.cell (World.block_lt_of_cell? w _ hw337_0)).trans hw337_0), ((HB.out.cell (World.block_lt_of_cell? w _ hw338_0)).trans hw338_0), ((HB.out.cell (World.block_lt_of_cell? w _ hw338_1)).trans hw338_1), ((HB.out.cell (World.block_lt_of_cell? w _ hw340_0)).trans hw340_0), ((HB.out.cell (World.block_lt_of_cell? w _ hw341_0)).trans hw341_0)⟩ (fun hHeld => ?_)
          clear hK K
          refine norm_ (a' := ?_) ?_ ?_
          rotate_left
          ·show Act.put _ (some 152) _ = _
           simp only [Act.put, sA, sB, sC, i64_w, i32_w]
           rfl
          iterate 2 (first | (refine pz_ HT_ spec_l02Ok.cz3 rfl rfl rfl (v := ?_) (a' := ?_) (by kernel_rfl) (fun _ _ _ h => h) (Or.inl ⟨by rfl, ?_⟩) ?_ ?_; rotate_left; (intro w'; go_simp; with_reducible rfl); rotate_left; (simp only [Act.put, sA, sB, sC, i64_w, i32_w]; rfl)))
          refine done_ (done_of HT_.out (by kernel_rfl)) ?_
          try go_wp2
          go_meet
          case rel => exact ⟨_, (!t342), (by first | rfl | (simp; done) | (simp [*]; done)), H', ⟨by have := HJ1.out; have := HK2.out; have := HJ18.out; have := HK4.out; first | omega | exact Nat.le_refl _⟩, ⟨by (with_reducible repeat (first | refine bn_ ?_ _ | refine bd_ ?_ | refine ba_ ?_ _)); exact BK0.out⟩, ⟨by repeat (first | (with_reducible first | exact HB.out | apply pA | apply pN | apply pD | refine pS ?_ GE0.out) | exact HB.out)⟩⟩
         case rest =>
          clear HC32
          obtain ⟨kq, x154_31, rfl, HA, HJ31, BK0, HB⟩ := hcut
          cases kq with
          | zero => exact absurd HA.out (by simp [spec_l02Ok.j4])
          | succ kj31 =>
           have H := HA.out
           clear HA
           simp only [spec_l02Ok.j4] at H
           by_cases c47 : x154_31 = true
           ·subst c47
            have H1 : (some false) = some r := by rw [if_pos rfl] at H; exact H
            clear H
            have H := H1
            clear H1
            obtain rfl := oJ H
            go_wp2
            go_ret
            exact ⟨by first | rfl | (simp [Ze, Zf] <;> rfl) | (simp [*, Ze, Zf] <;> rfl), by repeat (first | (with_reducible first | exact HB.out | apply pA | apply pN | apply pD | refine pS ?_ GE0.out) | exact HB.out)⟩
           replace c47 := Bool.eq_false_iff.mpr c47
           subst c47
           have H1 : (spec_l02Ok.l1 kj31 (l0_2.length : Int) x4_2 (wrap64 (x5_4 + 1)) a0_0 a0_1 l0_2 l0_3 l0_4 l0_5) = some r := by rw [if_neg (show ¬ (false = true) by decide)] at H; exact H
           clear H
           have H := H1
           clear H1
           have H' := AZ.mk H
           clear H
           go_wp2
           go_roundg kj31
           case measure => have := HJ1.out; have := HK2.out; have := HJ18.out; have := HK4.out; have := HJ31.out; omega
           case rel => exact ⟨(wrap64 (x5_4 + 1)), (by first | rfl | (simp; done) | (simp [*]; done)), H', ⟨by have := HJ1.out; have := HK2.out; have := HJ18.out; have := HK4.out; have := HJ31.out; omega⟩, ⟨by (with_reducible repeat (first | refine bn_ ?_ _ | refine bd_ ?_ | refine ba_ ?_ _)); exact BK0.out⟩, ⟨by repeat (first | (with_reducible first | exact HB.out | apply pA | apply pN | apply pD | refine pS ?_ GE0.out) | exact HB.out)⟩⟩
end Go.Proofs.Ytepkfigcnnfoaaa.P
namespace Go.Proofs.Ytepkfigcnnfoaaa.P
open Go.RowKit Go.Proofs.YtepkfigcnnfoaaaW.PrintWords Go.Proofs.YtepkfigcnnfoaaaW.PrintLast Go.Proofs.YtepkfigcnnfoaaaW.PrintMore Go.Proofs.Ytepkfigcnnfoaaa.Deep
theorem told_true (k : Nat) (m st : Int) (A2 : Option Addr) (c2 : Nat) (l2 : List Bool) (A3 : Option Addr) (c3 : Nat) (l3 : List (List S47)) (A4 : Option Addr) (c4 : Nat) (l4 : List (List (List Int))) (A5 : Option Addr) (c5 : Nat) (l5 : List (List Int)) (w : World) (hC : CH w A2 c2 l2 A3 c3 l3 A4 c4 l4 A5 c5 l5) (B : Nat) (hO : OwnC w B (.slice A2 l2.length c2) (.slice A3 l3.length c3) (.slice A4 l4.length c4) (.slice A5 l5.length c5) l2 l3 l4 l5) (hv : spec_l02Ok.f k m st l2 l3 l4 l5 = some true) :
  Calls Try.prog 79 #[.agg #[.int .i64 m, .int .i64 st, .slice A2 l2.length c2, .slice A3 l3.length c3, .slice A4 l4.length c4, .slice A5 l5.length c5]] w fun e w' => e = .returned (.tuple #[.agg #[.int .i64 m, .int .i64 st, .slice A2 l2.length c2, .slice A3 l3.length c3, .slice A4 l4.length c4, .slice A5 l5.length c5], .int .i64 0]) ∧ OwnC w' B (.slice A2 l2.length c2) (.slice A3 l3.length c3) (.slice A4 l4.length c4) (.slice A5 l5.length c5) l2 l3 l4 l5 ∧ Below w.heap.size w w' := by
 have hu27 := Try.underlying27
 have HB := AZ.mk (Below.refl w.heap.size w)
 have HC := AZ.mk hC
 have OC := AZ.mk hO
 have HV := AZ.mk hv
 clear hC hO hv
 go_enter Try.func79, Try.ntmps79
 go_wp2_with (first | ((with_reducible refine Zc (N := 1) rfl ?_); refine Zh rfl (N := 1) rfl (cs := #[.int .i64 m, .int .i64 st, .slice A2 l2.length c2, .slice A3 l3.length c3, .slice A4 l4.length c4, .slice A5 l5.length c5]) (t := 27) (by go_simp; try rfl) ?_; intro gC hg WgC hbx hb; have n9_ := AZ.mk hbx; clear hbx hg; replace HB := AZ.mk (pT HB.out hb); replace OC := AZ.mk (Ye OC.out hb); clear hb; have BC := n9_; clear n9_) | ((with_reducible refine Zc (N := 2) rfl ?_); refine Zh rfl (N := 2) rfl (cs := cZ) (t := 27) (by go_simp; try rfl) ?_; intro gZ hg WgZ hbx hb; have n9_ := AZ.mk hbx; have GZ := AZ.mk (show w.heap.size ≤ gZ by rw [hg]; exact pZ HB.out); have NC := AZ.mk (show gC ≠ gZ by rw [hg]; exact nL (Zv BC.out)); clear hbx hg; replace HB := AZ.mk (pT HB.out hb); replace OC := AZ.mk (Ye OC.out hb); replace BC := AZ.mk (bb_ BC.out hb); clear hb; have BZ := n9_; clear n9_) | ((with_reducible refine Zc (N := 4) rfl ?_); refine Zi (some 4) rfl rfl Try.func70 (by kernel_rfl) rfl #[.pointer (some ⟨gC, 0, none⟩)] rfl (by (try simp only [mA, mB, mC]); first | done | rfl) ?_; refine (spec_l02Ok.calls k gC m st A2 c2 l2 A3 c3 l3 A4 c4 l4 A5 c5 l5 true _ (Kd.C_below HC.out.r2 HB.out) HC.out.d2 (Kd.C_below HC.out.r3 HB.out) HC.out.d3 (Kd.C_below HC.out.r4 HB.out) HC.out.d4 (Kd.C_below HC.out.r5 HB.out) HC.out.d5 BC.out HV.out).mono ?_; rintro e W4 ⟨rfl, hb⟩; refine ⟨_, rfl, ?_⟩; replace HB := AZ.mk (pT HB.out hb); replace OC := AZ.mk (Ye OC.out hb); replace BC := AZ.mk (bb_ BC.out hb); replace BZ := AZ.mk (bb_ BZ.out hb); clear hb) | ((with_reducible refine Zc (N := 7) rfl ?_); refine load27 rfl 1 rfl (g := gC) rfl BC.out rfl ?_) | ((with_reducible refine gate_ (.store 27 (.tmp 2) (.tmp 7)) rfl ?_); refine store27 rfl 2 7 rfl (g := gZ) (old := cZ) (cs := #[.int .i64 m, .int .i64 st, .slice A2 l2.length c2, .slice A3 l3.length c3, .slice A4 l4.length c4, .slice A5 l5.length c5]) rfl rfl BZ.out rfl rfl (cells4_one _ _ _ _ _ _ _ _ _ _ _ _ _ _) ?_; intro w9 hbx hB hfar))
 refine bodyPost_ret (results_ct rfl _ _ gZ 27 #[.int .i64 m, .int .i64 st, .slice A2 l2.length c2, .slice A3 l3.length c3, .slice A4 l4.length c4, .slice A5 l5.length c5] (0, 0) _ rfl hbx Try.underlying27 rfl (by kernel_rfl)) rfl ?_
 exact ⟨rfl, own_far' OC.out BZ.out hfar, hB _ _ HB.out GZ.out⟩
theorem told_false (k : Nat) (m st : Int) (A2 : Option Addr) (c2 : Nat) (l2 : List Bool) (A3 : Option Addr) (c3 : Nat) (l3 : List (List S47)) (A4 : Option Addr) (c4 : Nat) (l4 : List (List (List Int))) (A5 : Option Addr) (c5 : Nat) (l5 : List (List Int)) (w : World) (hC : CH w A2 c2 l2 A3 c3 l3 A4 c4 l4 A5 c5 l5) (hv : spec_l02Ok.f k m st l2 l3 l4 l5 = some false) :
  Calls Try.prog 79 #[.agg #[.int .i64 m, .int .i64 st, .slice A2 l2.length c2, .slice A3 l3.length c3, .slice A4 l4.length c4, .slice A5 l5.length c5]] w fun e w' => e = .returned (.tuple #[.agg #[.int .i64 0, .int .i64 0, nilV, nilV, nilV, nilV], .int .i64 3]) ∧ Below w.heap.size w w' := by
 have hu27 := Try.underlying27
 have HB := AZ.mk (Below.refl w.heap.size w)
 have HC := AZ.mk hC
 have HV := AZ.mk hv
 clear hC hv
 go_enter Try.func79, Try.ntmps79
 go_wp2_with (first | ((with_reducible refine Zc (N := 1) rfl ?_); refine Zh rfl (N := 1) rfl (cs := #[.int .i64 m, .int .i64 st, .slice A2 l2.length c2, .slice A3 l3.length c3, .slice A4 l4.length c4, .slice A5 l5.length c5]) (t := 27) (by go_simp; try rfl) ?_; intro gC hg WgC hbx hb; have n9_ := AZ.mk hbx; clear hbx hg; replace HB := AZ.mk (pT HB.out hb); clear hb; have BC := n9_; clear n9_) | ((with_reducible refine Zc (N := 2) rfl ?_); refine Zh rfl (N := 2) rfl (cs := cZ) (t := 27) (by go_simp; try rfl) ?_; intro gZ hg WgZ hbx hb; have n9_ := AZ.mk hbx; have GZ := AZ.mk (show w.heap.size ≤ gZ by rw [hg]; exact pZ HB.out); clear hbx hg; replace HB := AZ.mk (pT HB.out hb); replace BC := AZ.mk (bb_ BC.out hb); clear hb; have BZ := n9_; clear n9_) | ((with_reducible refine Zc (N := 4) rfl ?_); refine Zi (some 4) rfl rfl Try.func70 (by kernel_rfl) rfl #[.pointer (some ⟨gC, 0, none⟩)] rfl (by (try simp only [mA, mB, mC]); first | done | rfl) ?_; refine (spec_l02Ok.calls k gC m st A2 c2 l2 A3 c3 l3 A4 c4 l4 A5 c5 l5 false _ (Kd.C_below HC.out.r2 HB.out) HC.out.d2 (Kd.C_below HC.out.r3 HB.out) HC.out.d3 (Kd.C_below HC.out.r4 HB.out) HC.out.d4 (Kd.C_below HC.out.r5 HB.out) HC.out.d5 BC.out HV.out).mono ?_; rintro e W4 ⟨rfl, hb⟩; refine ⟨_, rfl, ?_⟩; replace HB := AZ.mk (pT HB.out hb); replace BC := AZ.mk (bb_ BC.out hb); replace BZ := AZ.mk (bb_ BZ.out hb); clear hb) | ((with_reducible refine gate_ (.store 27 (.tmp 2) (.tmp 6)) rfl ?_); refine store27 rfl 2 6 rfl (g := gZ) (old := cZ) (cs := cZ) rfl rfl BZ.out rfl rfl (cells4_one 0 0 none none none none 0 0 0 0 0 0 0 0) ?_; intro w9 hbx hB hfar))
 refine bodyPost_ret (results_ct rfl _ _ gZ 27 cZ (0, 0) _ rfl hbx Try.underlying27 rfl (by kernel_rfl)) rfl ?_
 exact ⟨rfl, hB _ _ HB.out GZ.out⟩
theorem specp_bad1 (k : Nat) (m st : Int) (A2 : Option Addr) (c2 : Nat) (l2 : List Bool) (A3 : Option Addr) (c3 : Nat) (l3 : List (List S47)) (A4 : Option Addr) (c4 : Nat) (l4 : List (List (List Int))) (A5 : Option Addr) (c5 : Nat) (l5 : List (List Int)) (m' st' : Int) (B2 : Option Addr) (d2 : Nat) (p2 : List Bool) (B3 : Option Addr) (d3 : Nat) (p3 : List (List S47)) (B4 : Option Addr) (d4 : Nat) (p4 : List (List (List Int))) (B5 : Option Addr) (d5 : Nat) (p5 : List (List Int)) (w : World) (hC : CH w A2 c2 l2 A3 c3 l3 A4 c4 l4 A5 c5 l5) (hD : CH w B2 d2 p2 B3 d3 p3 B4 d4 p4 B5 d5 p5) (hv : spec_l02Ok.f k m st l2 l3 l4 l5 = some false) :
  Calls Try.prog 27 #[.agg #[.int .i64 m, .int .i64 st, .slice A2 l2.length c2, .slice A3 l3.length c3, .slice A4 l4.length c4, .slice A5 l5.length c5], .agg #[.int .i64 m', .int .i64 st', .slice B2 p2.length d2, .slice B3 p3.length d3, .slice B4 p4.length d4, .slice B5 p5.length d5]] w fun e w' => ∃ vA vC vR vI : Value, e = .returned (.tuple #[.agg #[.int .i64 0, .int .i64 0, vA, vC, vR, vI], .int .i64 1]) ∧ OwnC w' w.heap.size vA vC vR vI [] [] [] [] ∧ Below w.heap.size w w' := by
 have hu27 := Try.underlying27
 have HB := AZ.mk (Below.refl w.heap.size w)
 have HC := AZ.mk hC
 have HD := AZ.mk hD
 have HV := AZ.mk hv
 clear hC hD hv
 go_enter Try.func27, Try.ntmps27
 go_wp2_with (first | ((with_reducible refine Zc (N := 2) rfl ?_); refine Zh rfl (N := 2) rfl (cs := #[.int .i64 m, .int .i64 st, .slice A2 l2.length c2, .slice A3 l3.length c3, .slice A4 l4.length c4, .slice A5 l5.length c5]) (t := 27) (by go_simp; try rfl) ?_; intro gC hg WgC hbx hb; have n9_ := AZ.mk hbx; clear hbx hg; replace HB := AZ.mk (pT HB.out hb); clear hb; have BC := n9_; clear n9_) | ((with_reducible refine Zc (N := 3) rfl ?_); refine Zh rfl (N := 3) rfl (cs := #[.int .i64 m', .int .i64 st', .slice B2 p2.length d2, .slice B3 p3.length d3, .slice B4 p4.length d4, .slice B5 p5.length d5]) (t := 27) (by go_simp; try rfl) ?_; intro gD hg WgD hbx hb; have n9_ := AZ.mk hbx; clear hbx hg; replace HB := AZ.mk (pT HB.out hb); replace BC := AZ.mk (bb_ BC.out hb); clear hb; have BD := n9_; clear n9_) | ((with_reducible refine Zc (N := 4) rfl ?_); refine Zh rfl (N := 4) rfl (cs := cZ) (t := 27) (by go_simp; try rfl) ?_; intro gZ hg WgZ hbx hb; have n9_ := AZ.mk hbx; have GZ := AZ.mk (show w.heap.size ≤ gZ by rw [hg]; exact pZ HB.out); clear hbx hg; replace HB := AZ.mk (pT HB.out hb); replace BC := AZ.mk (bb_ BC.out hb); replace BD := AZ.mk (bb_ BD.out hb); clear hb; have BZ := n9_; clear n9_) | ((with_reducible refine Zc (N := 6) rfl ?_); refine Zi (some 6) rfl rfl Try.func70 (by kernel_rfl) rfl #[.pointer (some ⟨gC, 0, none⟩)] rfl (by (try simp only [mA, mB, mC]); first | done | rfl) ?_; refine (spec_l02Ok.calls k gC m st A2 c2 l2 A3 c3 l3 A4 c4 l4 A5 c5 l5 false _ (Kd.C_below HC.out.r2 HB.out) HC.out.d2 (Kd.C_below HC.out.r3 HB.out) HC.out.d3 (Kd.C_below HC.out.r4 HB.out) HC.out.d4 (Kd.C_below HC.out.r5 HB.out) HC.out.d5 BC.out HV.out).mono ?_; rintro e W6 ⟨rfl, hb⟩; refine ⟨_, rfl, ?_⟩; replace HB := AZ.mk (pT HB.out hb); replace BC := AZ.mk (bb_ BC.out hb); replace BD := AZ.mk (bb_ BD.out hb); replace BZ := AZ.mk (bb_ BZ.out hb); clear hb) | ((with_reducible refine gate_ (.store 27 (.tmp 4) (.tmp 12)) rfl ?_); refine store27 rfl 4 12 rfl (g := gZ) (old := cZ) (cs := cZ) rfl rfl BZ.out rfl rfl (cells4_one 0 0 none none none none 0 0 0 0 0 0 0 0) ?_; intro w9 hbx hB hfar))
 refine bodyPost_ret (results_ct rfl _ _ gZ 27 cZ (0, 0) _ rfl hbx Try.underlying27 rfl (by kernel_rfl)) rfl ?_
 exact ⟨nilV, nilV, nilV, nilV, rfl, own_nil' _ _, hB _ _ HB.out GZ.out⟩
theorem specp_bad2 (k : Nat) (m st : Int) (A2 : Option Addr) (c2 : Nat) (l2 : List Bool) (A3 : Option Addr) (c3 : Nat) (l3 : List (List S47)) (A4 : Option Addr) (c4 : Nat) (l4 : List (List (List Int))) (A5 : Option Addr) (c5 : Nat) (l5 : List (List Int)) (m' st' : Int) (B2 : Option Addr) (d2 : Nat) (p2 : List Bool) (B3 : Option Addr) (d3 : Nat) (p3 : List (List S47)) (B4 : Option Addr) (d4 : Nat) (p4 : List (List (List Int))) (B5 : Option Addr) (d5 : Nat) (p5 : List (List Int)) (w : World) (hC : CH w A2 c2 l2 A3 c3 l3 A4 c4 l4 A5 c5 l5) (hD : CH w B2 d2 p2 B3 d3 p3 B4 d4 p4 B5 d5 p5) (hv : spec_l02Ok.f k m st l2 l3 l4 l5 = some true) (hu : spec_l02Ok.f k m' st' p2 p3 p4 p5 = some false) :
  Calls Try.prog 27 #[.agg #[.int .i64 m, .int .i64 st, .slice A2 l2.length c2, .slice A3 l3.length c3, .slice A4 l4.length c4, .slice A5 l5.length c5], .agg #[.int .i64 m', .int .i64 st', .slice B2 p2.length d2, .slice B3 p3.length d3, .slice B4 p4.length d4, .slice B5 p5.length d5]] w fun e w' => ∃ vA vC vR vI : Value, e = .returned (.tuple #[.agg #[.int .i64 0, .int .i64 0, vA, vC, vR, vI], .int .i64 1]) ∧ OwnC w' w.heap.size vA vC vR vI [] [] [] [] ∧ Below w.heap.size w w' := by
 have hu27 := Try.underlying27
 have HB := AZ.mk (Below.refl w.heap.size w)
 have HC := AZ.mk hC
 have HD := AZ.mk hD
 have HV := AZ.mk hv
 have HU := AZ.mk hu
 clear hC hD hv hu
 go_enter Try.func27, Try.ntmps27
 go_wp2_with (first | ((with_reducible refine Zc (N := 2) rfl ?_); refine Zh rfl (N := 2) rfl (cs := #[.int .i64 m, .int .i64 st, .slice A2 l2.length c2, .slice A3 l3.length c3, .slice A4 l4.length c4, .slice A5 l5.length c5]) (t := 27) (by go_simp; try rfl) ?_; intro gC hg WgC hbx hb; have n9_ := AZ.mk hbx; clear hbx hg; replace HB := AZ.mk (pT HB.out hb); clear hb; have BC := n9_; clear n9_) | ((with_reducible refine Zc (N := 3) rfl ?_); refine Zh rfl (N := 3) rfl (cs := #[.int .i64 m', .int .i64 st', .slice B2 p2.length d2, .slice B3 p3.length d3, .slice B4 p4.length d4, .slice B5 p5.length d5]) (t := 27) (by go_simp; try rfl) ?_; intro gD hg WgD hbx hb; have n9_ := AZ.mk hbx; clear hbx hg; replace HB := AZ.mk (pT HB.out hb); replace BC := AZ.mk (bb_ BC.out hb); clear hb; have BD := n9_; clear n9_) | ((with_reducible refine Zc (N := 4) rfl ?_); refine Zh rfl (N := 4) rfl (cs := cZ) (t := 27) (by go_simp; try rfl) ?_; intro gZ hg WgZ hbx hb; have n9_ := AZ.mk hbx; have GZ := AZ.mk (show w.heap.size ≤ gZ by rw [hg]; exact pZ HB.out); clear hbx hg; replace HB := AZ.mk (pT HB.out hb); replace BC := AZ.mk (bb_ BC.out hb); replace BD := AZ.mk (bb_ BD.out hb); clear hb; have BZ := n9_; clear n9_) | ((with_reducible refine Zc (N := 6) rfl ?_); refine Zi (some 6) rfl rfl Try.func70 (by kernel_rfl) rfl #[.pointer (some ⟨gC, 0, none⟩)] rfl (by (try simp only [mA, mB, mC]); first | done | rfl) ?_; refine (spec_l02Ok.calls k gC m st A2 c2 l2 A3 c3 l3 A4 c4 l4 A5 c5 l5 true _ (Kd.C_below HC.out.r2 HB.out) HC.out.d2 (Kd.C_below HC.out.r3 HB.out) HC.out.d3 (Kd.C_below HC.out.r4 HB.out) HC.out.d4 (Kd.C_below HC.out.r5 HB.out) HC.out.d5 BC.out HV.out).mono ?_; rintro e W6 ⟨rfl, hb⟩; refine ⟨_, rfl, ?_⟩; replace HB := AZ.mk (pT HB.out hb); replace BC := AZ.mk (bb_ BC.out hb); replace BD := AZ.mk (bb_ BD.out hb); replace BZ := AZ.mk (bb_ BZ.out hb); clear hb) | ((with_reducible refine Zc (N := 9) rfl ?_); refine gate_guard (by rfl) ?_; refine Zi (some 9) rfl rfl Try.func70 (by kernel_rfl) rfl #[.pointer (some ⟨gD, 0, none⟩)] rfl (by (try simp only [mA, mB, mC]); first | done | rfl) ?_; refine (spec_l02Ok.calls k gD m' st' B2 d2 p2 B3 d3 p3 B4 d4 p4 B5 d5 p5 false _ (Kd.C_below HD.out.r2 HB.out) HD.out.d2 (Kd.C_below HD.out.r3 HB.out) HD.out.d3 (Kd.C_below HD.out.r4 HB.out) HD.out.d4 (Kd.C_below HD.out.r5 HB.out) HD.out.d5 BD.out HU.out).mono ?_; rintro e W9 ⟨rfl, hb⟩; refine ⟨_, rfl, ?_⟩; replace HB := AZ.mk (pT HB.out hb); replace BC := AZ.mk (bb_ BC.out hb); replace BD := AZ.mk (bb_ BD.out hb); replace BZ := AZ.mk (bb_ BZ.out hb); clear hb) | ((with_reducible refine gate_ (.store 27 (.tmp 4) (.tmp 12)) rfl ?_); refine store27 rfl 4 12 rfl (g := gZ) (old := cZ) (cs := cZ) rfl rfl BZ.out rfl rfl (cells4_one 0 0 none none none none 0 0 0 0 0 0 0 0) ?_; intro w9 hbx hB hfar))
 refine bodyPost_ret (results_ct rfl _ _ gZ 27 cZ (0, 0) _ rfl hbx Try.underlying27 rfl (by kernel_rfl)) rfl ?_
 exact ⟨nilV, nilV, nilV, nilV, rfl, own_nil' _ _, hB _ _ HB.out GZ.out⟩
theorem own_lower0 {w : World} {B B' : Nat} {vA vC vR vI : Value} {LA : List Bool} {LC : List (List S47)} {LR : List (List (List Int))} {LI : List (List Int)} (h : OwnC w B vA vC vR vI LA LC LR LI) (hB : B' ≤ B) : OwnC w B' vA vC vR vI LA LC LR LI := by
 obtain ⟨f, h0, h1, h2, h3⟩ := h
 exact ⟨f, Kd.R_lower h0 hB, Kd.S_lower h1 hB, Kd.S_lower h2 hB, Kd.S_lower h3 hB⟩
theorem specp_ok (k : Nat) (m st : Int) (A2 : Option Addr) (c2 : Nat) (l2 : List Bool) (A3 : Option Addr) (c3 : Nat) (l3 : List (List S47)) (A4 : Option Addr) (c4 : Nat) (l4 : List (List (List Int))) (A5 : Option Addr) (c5 : Nat) (l5 : List (List Int)) (m' st' : Int) (B2 : Option Addr) (d2 : Nat) (p2 : List Bool) (B3 : Option Addr) (d3 : Nat) (p3 : List (List S47)) (B4 : Option Addr) (d4 : Nat) (p4 : List (List (List Int))) (B5 : Option Addr) (d5 : Nat) (p5 : List (List Int)) (w : World) (hC : CH w A2 c2 l2 A3 c3 l3 A4 c4 l4 A5 c5 l5) (hD : CH w B2 d2 p2 B3 d3 p3 B4 d4 p4 B5 d5 p5) (hv : spec_l02Ok.f k m st l2 l3 l4 l5 = some true) (hu : spec_l02Ok.f k m' st' p2 p3 p4 p5 = some true)
  (M S : Int) (QA : List Bool) (QC : List (List S47)) (QR : List (List (List Int))) (QI : List (List Int)) (gm gs gk : Int) (GA : List Bool) (GC : List (List S47)) (GR : List (List (List Int))) (GI : List (List Int))
  (hp : ∀ (W : World) (gC gD : Nat), CH W A2 c2 l2 A3 c3 l3 A4 c4 l4 A5 c5 l5 → CH W B2 d2 p2 B3 d3 p3 B4 d4 p4 B5 d5 p5 → W.heap[gC]? = some (.cells #[.int .i64 m, .int .i64 st, .slice A2 l2.length c2, .slice A3 l3.length c3, .slice A4 l4.length c4, .slice A5 l5.length c5] 27 (0, 0)) → W.heap[gD]? = some (.cells #[.int .i64 m', .int .i64 st', .slice B2 p2.length d2, .slice B3 p3.length d3, .slice B4 p4.length d4, .slice B5 p5.length d5] 27 (0, 0)) → Calls Try.prog 80 #[.pointer (some ⟨gC, 0, none⟩), .pointer (some ⟨gD, 0, none⟩), .bool false] W fun e w' => ∃ vA vC vR vI : Value, e = .returned (.agg (cellsI M S vA vC vR vI)) ∧ OwnC w' W.heap.size vA vC vR vI QA QC QR QI ∧ Below W.heap.size W w')
  (ht : ∀ (W : World) (B : Nat) (vA vC vR vI : Value), OwnC W B vA vC vR vI QA QC QR QI → Calls Try.prog 79 #[.agg (cellsI M S vA vC vR vI)] W fun e w' => ∃ uA uC uR uI : Value, e = .returned (.tuple #[.agg #[.int .i64 gm, .int .i64 gs, uA, uC, uR, uI], .int .i64 gk]) ∧ OwnC w' B uA uC uR uI GA GC GR GI ∧ Below W.heap.size W w') :
  Calls Try.prog 27 #[.agg #[.int .i64 m, .int .i64 st, .slice A2 l2.length c2, .slice A3 l3.length c3, .slice A4 l4.length c4, .slice A5 l5.length c5], .agg #[.int .i64 m', .int .i64 st', .slice B2 p2.length d2, .slice B3 p3.length d3, .slice B4 p4.length d4, .slice B5 p5.length d5]] w fun e w' => ∃ vA vC vR vI : Value, e = .returned (.tuple #[.agg #[.int .i64 gm, .int .i64 gs, vA, vC, vR, vI], .int .i64 gk]) ∧ OwnC w' w.heap.size vA vC vR vI GA GC GR GI ∧ Below w.heap.size w w' := by
 have hu27 := Try.underlying27
 have HB := AZ.mk (Below.refl w.heap.size w)
 have HC := AZ.mk hC
 have HD := AZ.mk hD
 have HV := AZ.mk hv
 have HU := AZ.mk hu
 have HP := AZ.mk hp
 have HT := AZ.mk ht
 clear hC hD hv hu hp ht
 go_enter Try.func27, Try.ntmps27
 go_wp2_with (first | ((with_reducible refine Zc (N := 2) rfl ?_); refine Zh rfl (N := 2) rfl (cs := #[.int .i64 m, .int .i64 st, .slice A2 l2.length c2, .slice A3 l3.length c3, .slice A4 l4.length c4, .slice A5 l5.length c5]) (t := 27) (by go_simp; try rfl) ?_; intro gC hg WgC hbx hb; have n9_ := AZ.mk hbx; clear hbx hg; replace HB := AZ.mk (pT HB.out hb); clear hb; have BC := n9_; clear n9_) | ((with_reducible refine Zc (N := 3) rfl ?_); refine Zh rfl (N := 3) rfl (cs := #[.int .i64 m', .int .i64 st', .slice B2 p2.length d2, .slice B3 p3.length d3, .slice B4 p4.length d4, .slice B5 p5.length d5]) (t := 27) (by go_simp; try rfl) ?_; intro gD hg WgD hbx hb; have n9_ := AZ.mk hbx; clear hbx hg; replace HB := AZ.mk (pT HB.out hb); replace BC := AZ.mk (bb_ BC.out hb); clear hb; have BD := n9_; clear n9_) | ((with_reducible refine Zc (N := 4) rfl ?_); refine Zh rfl (N := 4) rfl (cs := cZ) (t := 27) (by go_simp; try rfl) ?_; intro gZ hg WgZ hbx hb; have n9_ := AZ.mk hbx; have GZ := AZ.mk (show w.heap.size ≤ gZ by rw [hg]; exact pZ HB.out); clear hbx hg; replace HB := AZ.mk (pT HB.out hb); replace BC := AZ.mk (bb_ BC.out hb); replace BD := AZ.mk (bb_ BD.out hb); clear hb; have BZ := n9_; clear n9_) | ((with_reducible refine Zc (N := 6) rfl ?_); refine Zi (some 6) rfl rfl Try.func70 (by kernel_rfl) rfl #[.pointer (some ⟨gC, 0, none⟩)] rfl (by (try simp only [mA, mB, mC]); first | done | rfl) ?_; refine (spec_l02Ok.calls k gC m st A2 c2 l2 A3 c3 l3 A4 c4 l4 A5 c5 l5 true _ (Kd.C_below HC.out.r2 HB.out) HC.out.d2 (Kd.C_below HC.out.r3 HB.out) HC.out.d3 (Kd.C_below HC.out.r4 HB.out) HC.out.d4 (Kd.C_below HC.out.r5 HB.out) HC.out.d5 BC.out HV.out).mono ?_; rintro e W6 ⟨rfl, hb⟩; refine ⟨_, rfl, ?_⟩; replace HB := AZ.mk (pT HB.out hb); replace BC := AZ.mk (bb_ BC.out hb); replace BD := AZ.mk (bb_ BD.out hb); replace BZ := AZ.mk (bb_ BZ.out hb); clear hb) | ((with_reducible refine Zc (N := 9) rfl ?_); refine gate_guard (by rfl) ?_; refine Zi (some 9) rfl rfl Try.func70 (by kernel_rfl) rfl #[.pointer (some ⟨gD, 0, none⟩)] rfl (by (try simp only [mA, mB, mC]); first | done | rfl) ?_; refine (spec_l02Ok.calls k gD m' st' B2 d2 p2 B3 d3 p3 B4 d4 p4 B5 d5 p5 true _ (Kd.C_below HD.out.r2 HB.out) HD.out.d2 (Kd.C_below HD.out.r3 HB.out) HD.out.d3 (Kd.C_below HD.out.r4 HB.out) HD.out.d4 (Kd.C_below HD.out.r5 HB.out) HD.out.d5 BD.out HU.out).mono ?_; rintro e W9 ⟨rfl, hb⟩; refine ⟨_, rfl, ?_⟩; replace HB := AZ.mk (pT HB.out hb); replace BC := AZ.mk (bb_ BC.out hb); replace BD := AZ.mk (bb_ BD.out hb); replace BZ := AZ.mk (bb_ BZ.out hb); clear hb) | ((with_reducible refine gate_callee (f := 80) rfl ?_); refine Zi (some 13) rfl rfl Try.func80 (by kernel_rfl) rfl #[.pointer (some ⟨gC, 0, none⟩), .pointer (some ⟨gD, 0, none⟩), .bool false] rfl (by (try simp only [mA, mB, mC]); first | done | rfl) ?_; refine (HP.out _ gC gD (HC.out.below HB.out) (HD.out.below HB.out) BC.out BD.out).mono ?_; rintro e W13 ⟨vA, vC, vR, vI, rfl, hO, hb⟩; refine ⟨_, rfl, ?_⟩; have OC := AZ.mk (own_lower0 hO (pZ HB.out)); clear hO; replace HB := AZ.mk (pT HB.out hb); replace BZ := AZ.mk (bb_ BZ.out hb); clear hb) | ((with_reducible refine gate_callee (f := 79) rfl ?_); refine Zi (some 14) rfl rfl Try.func79 (by kernel_rfl) rfl #[.agg (cellsI M S vA vC vR vI)] rfl (by (try simp only [mA, mB, mC]); first | done | rfl) ?_; refine (HT.out _ _ vA vC vR vI OC.out).mono ?_; rintro e W14 ⟨uA, uC, uR, uI, rfl, hO, hb⟩; refine ⟨_, rfl, ?_⟩; clear OC; have OC := AZ.mk hO; clear hO; replace HB := AZ.mk (pT HB.out hb); replace BZ := AZ.mk (bb_ BZ.out hb); clear hb) | ((with_reducible refine gate_ (.store 27 (.tmp 4) (.tmp 15)) rfl ?_); refine store27 rfl 4 15 rfl (g := gZ) (old := cZ) (cs := cellsI gm gs uA uC uR uI) rfl rfl BZ.out rfl rfl (cellsI_one _ _ (Reads.own OC.out)) ?_; intro w9 hbx hB hfar))
 refine bodyPost_ret (results_ct rfl _ _ gZ 27 (cellsI gm gs uA uC uR uI) (0, 0) _ rfl hbx Try.underlying27 rfl (by kernel_rfl)) rfl ?_
 exact ⟨uA, uC, uR, uI, rfl, own_far' OC.out BZ.out hfar, hB _ _ HB.out GZ.out⟩
theorem implp (m st : Int) (A2 : Option Addr) (c2 : Nat) (l2 : List Bool) (A3 : Option Addr) (c3 : Nat) (l3 : List (List S47)) (A4 : Option Addr) (c4 : Nat) (l4 : List (List (List Int))) (A5 : Option Addr) (c5 : Nat) (l5 : List (List Int)) (m' st' : Int) (B2 : Option Addr) (d2 : Nat) (p2 : List Bool) (B3 : Option Addr) (d3 : Nat) (p3 : List (List S47)) (B4 : Option Addr) (d4 : Nat) (p4 : List (List (List Int))) (B5 : Option Addr) (d5 : Nat) (p5 : List (List Int)) (w : World) (hC : CH w A2 c2 l2 A3 c3 l3 A4 c4 l4 A5 c5 l5) (hD : CH w B2 d2 p2 B3 d3 p3 B4 d4 p4 B5 d5 p5) (gm gs gk : Int) (GA : List Bool) (GC : List (List S47)) (GR : List (List (List Int))) (GI : List (List Int))
  (hp : ∀ (W : World), CH W A2 c2 l2 A3 c3 l3 A4 c4 l4 A5 c5 l5 → CH W B2 d2 p2 B3 d3 p3 B4 d4 p4 B5 d5 p5 → Calls Try.prog 81 #[.agg #[.int .i64 m, .int .i64 st, .slice A2 l2.length c2, .slice A3 l3.length c3, .slice A4 l4.length c4, .slice A5 l5.length c5], .agg #[.int .i64 m', .int .i64 st', .slice B2 p2.length d2, .slice B3 p3.length d3, .slice B4 p4.length d4, .slice B5 p5.length d5], .func (.func 83) #[] #[]] W fun e w' => ∃ vA vC vR vI : Value, e = .returned (.tuple #[.agg #[.int .i64 gm, .int .i64 gs, vA, vC, vR, vI], .int .i64 gk]) ∧ OwnC w' W.heap.size vA vC vR vI GA GC GR GI ∧ Below W.heap.size W w') :
  Calls Try.prog 28 #[.agg #[.int .i64 m, .int .i64 st, .slice A2 l2.length c2, .slice A3 l3.length c3, .slice A4 l4.length c4, .slice A5 l5.length c5], .agg #[.int .i64 m', .int .i64 st', .slice B2 p2.length d2, .slice B3 p3.length d3, .slice B4 p4.length d4, .slice B5 p5.length d5]] w fun e w' => ∃ vA vC vR vI : Value, e = .returned (.tuple #[.agg #[.int .i64 gm, .int .i64 gs, vA, vC, vR, vI], .int .i64 gk]) ∧ OwnC w' w.heap.size vA vC vR vI GA GC GR GI ∧ Below w.heap.size w w' := by
 have hu27 := Try.underlying27
 have HB := AZ.mk (Below.refl w.heap.size w)
 have HC := AZ.mk hC
 have HD := AZ.mk hD
 have HP := AZ.mk hp
 clear hC hD hp
 go_enter Try.func28, Try.ntmps28
 go_wp2_with (first | ((with_reducible refine Zc (N := 2) rfl ?_); refine Zh rfl (N := 2) rfl (cs := #[.int .i64 m, .int .i64 st, .slice A2 l2.length c2, .slice A3 l3.length c3, .slice A4 l4.length c4, .slice A5 l5.length c5]) (t := 27) (by go_simp; try rfl) ?_; intro gC hg WgC hbx hb; have n9_ := AZ.mk hbx; clear hbx hg; replace HB := AZ.mk (pT HB.out hb); clear hb; have BC := n9_; clear n9_) | ((with_reducible refine Zc (N := 3) rfl ?_); refine Zh rfl (N := 3) rfl (cs := #[.int .i64 m', .int .i64 st', .slice B2 p2.length d2, .slice B3 p3.length d3, .slice B4 p4.length d4, .slice B5 p5.length d5]) (t := 27) (by go_simp; try rfl) ?_; intro gD hg WgD hbx hb; have n9_ := AZ.mk hbx; clear hbx hg; replace HB := AZ.mk (pT HB.out hb); replace BC := AZ.mk (bb_ BC.out hb); clear hb; have BD := n9_; clear n9_) | ((with_reducible refine Zc (N := 4) rfl ?_); refine Zh rfl (N := 4) rfl (cs := cZ) (t := 27) (by go_simp; try rfl) ?_; intro gZ hg WgZ hbx hb; have n9_ := AZ.mk hbx; have GZ := AZ.mk (show w.heap.size ≤ gZ by rw [hg]; exact pZ HB.out); clear hbx hg; replace HB := AZ.mk (pT HB.out hb); replace BC := AZ.mk (bb_ BC.out hb); replace BD := AZ.mk (bb_ BD.out hb); clear hb; have BZ := n9_; clear n9_) | ((with_reducible refine Zc (N := 6) rfl ?_); refine load27 rfl 2 rfl (g := gC) rfl BC.out rfl ?_) | ((with_reducible refine Zc (N := 7) rfl ?_); refine load27 rfl 3 rfl (g := gD) rfl BD.out rfl ?_) | ((with_reducible refine gate_callee (f := 81) rfl ?_); refine Zi (some 8) rfl rfl Try.func81 (by kernel_rfl) rfl #[.agg #[.int .i64 m, .int .i64 st, .slice A2 l2.length c2, .slice A3 l3.length c3, .slice A4 l4.length c4, .slice A5 l5.length c5], .agg #[.int .i64 m', .int .i64 st', .slice B2 p2.length d2, .slice B3 p3.length d3, .slice B4 p4.length d4, .slice B5 p5.length d5], .func (.func 83) #[] #[]] rfl (by (try simp only [mA, mB, mC]); first | done | rfl) ?_; refine (HP.out _ (HC.out.below HB.out) (HD.out.below HB.out)).mono ?_; rintro e W8 ⟨uA, uC, uR, uI, rfl, hO, hb⟩; refine ⟨_, rfl, ?_⟩; have OC := AZ.mk (own_lower0 hO (pZ HB.out)); clear hO; replace HB := AZ.mk (pT HB.out hb); replace BZ := AZ.mk (bb_ BZ.out hb); clear hb) | ((with_reducible refine gate_ (.store 27 (.tmp 4) (.tmp 9)) rfl ?_); refine store27 rfl 4 9 rfl (g := gZ) (old := cZ) (cs := cellsI gm gs uA uC uR uI) rfl rfl BZ.out rfl rfl (cellsI_one _ _ (Reads.own OC.out)) ?_; intro w9 hbx hB hfar))
 refine bodyPost_ret (results_ct rfl _ _ gZ 27 (cellsI gm gs uA uC uR uI) (0, 0) _ rfl hbx Try.underlying27 rfl (by kernel_rfl)) rfl ?_
 exact ⟨uA, uC, uR, uI, rfl, own_far' OC.out BZ.out hfar, hB _ _ HB.out GZ.out⟩
end Go.Proofs.Ytepkfigcnnfoaaa.P
namespace Go.Proofs.Ytepkfigcnnfoaaa.Deep
open Go.RowKit Go.Proofs.YtepkfigcnnfoaaaW.PrintWords Go.Proofs.YtepkfigcnnfoaaaW.PrintLast Go.Proofs.YtepkfigcnnfoaaaW.PrintMore
section
variable {P : Program} {ops : Array Oper} {rest : List Oper} {o : Oper} {a : Act} {Q : Exit → Act → World → Prop} {Kc : Act → World → Prop}
variable {α : Type} {dP : Kd α} {tA tP tC tL tI tR tK : Nat} {w0 W w1 : World} {gC gZ : Nat} {cC cZ : Array Value} {vA vC vR vI vc vb vi vl : Value} {LA : List Bool} {LC : List (List α)} {LR : List (List (List Int))} {LI : List (List Int)} {lc : List α} {lb : List (List Int)} {li ll : List Int}
theorem wpList_at (h : if Region.wanted o (yielded ops a.tmps) = true then Oper.wp P o a W (wpList P ops Q rest) Q else wpList P ops Q rest (a.put o.dst undef) W) : wpList P ops Q (o :: rest) a W := by
 unfold wpList
 split
 ·rename_i hw; rw [if_pos hw] at h; exact .inl h
 ·rename_i hw; rw [if_neg hw] at h; exact h
end
section
variable {P : Program} {ops : Array Oper} {rest : List Oper} {o : Oper} {a : Act} {Q : Exit → Act → World → Prop} {Kc : Act → World → Prop}
variable {α : Type} {dP : Kd α} {tA tP tC tL tI tR tK : Nat} {w0 W w1 : World} {gC gZ : Nat} {cC cZ : Array Value} {vA vC vR vI vc vb vi vl : Value} {LA : List Bool} {LC : List (List α)} {LR : List (List (List Int))} {LI : List (List Int)} {lc : List α} {lb : List (List Int)} {li ll : List Int}
theorem All.app_lS (hT : Apart dP tA tP tC tL tI tR tK) (h : All dP tA tP tC tL tI tR tK w0 W gC gZ cC cZ vA vC vR vI vc vb vi vl LA LC LR LI lc lb li ll) (hw : Region.wanted o (yielded ops a.tmps) = true) (s x : Operand) (t : TypeId) (y : Int)
  (ho : o.op = .call { callee := .builtin .append, args := #[s, x], argTypes := #[t, t] }) (ht : P.underlying t = some (.slice tL)) (hinfo : (P.info? tL).map (fun i => (i.zero, i.size, i.bytes)) = some (some (.int .i64 0), 1, 8))
  (hs : a.eval s = vl) (g : Nat) (hx : a.eval x = .slice (some ⟨g, 0, none⟩) 1 1) (hgv : W.heap[g]? = some (.cells [.int .i64 y].toArray tL (0, 0))) (hl : (ll.length + 1) * 8 ≤ 140737488355328)
  (k : ∀ v1 w1, All dP tA tP tC tL tI tR tK w0 w1 gC gZ cC cZ vA vC vR vI vc vb vi v1 LA LC LR LI lc lb li (ll ++ [y]) → (∀ (j : Nat) (cs2 : Array Value) (e2 : TypeId), W.heap[j]? = some (.cells cs2 e2 (0, 0)) → tL ≠ e2 → w1.heap[j]? = some (.cells cs2 e2 (0, 0))) → Kc (a.put o.dst v1) w1) :
  if Region.wanted o (yielded ops a.tmps) = true then Oper.wp P o a W Kc Q else Kc (a.put o.dst undef) W := by
 have hle := h.le
 obtain ⟨hB, hC, hZ, hg, f, h0, h1, h2, h3, h4, h5, h6, h7⟩ := h
 refine R_append_at (Kd.int .i64) (w0 := w0) w0.heap.size hw s x t tL (.int .i64 0) 8 ho ht hinfo rfl (by show 0 < 1; decide) (by decide) vl ll y [.int .i64 y] (tg (upT f W.heap.size 7) 7) (fun _ => False) g hs hx hgv rfl (fun _ hk => hk.elim) (fun k hk => upT_ge hk) (Kd.R_mono (R_tag_in h7) (fun k hk => (Zu hk.2).trans hk.1)) hB hle hl ?_
 intro v1 w1 hr hb hgr _
 have row : ∀ i, i ≠ 7 → ∀ k, vl.ownBlock = some k → f k ≠ i := fun i hi k hk e => hi (e.symm.trans (h7.1 k hk))
 exact k v1 w1 ⟨hb, Yb hC hgr (Kd.R_ne h7 hC hT.l), Yb hZ hgr (Kd.R_ne h7 hZ hT.l), hg, upT f W.heap.size 7, Yc h0 hgr (row 0 (by decide)) (fun k hk e => (Zu hk).trans e), Zy h1 hgr (row 1 (by decide)) (fun k hk e => (Zu hk).trans e), Zy h2 hgr (row 2 (by decide)) (fun k hk e => (Zu hk).trans e), Zy h3 hgr (row 3 (by decide)) (fun k hk e => (Zu hk).trans e), Yc h4 hgr (row 4 (by decide)) (fun k hk e => (Zu hk).trans e), Zy h5 hgr (row 5 (by decide)) (fun k hk e => (Zu hk).trans e), Yc h6 hgr (row 6 (by decide)) (fun k hk e => (Zu hk).trans e), hr⟩ (fun j cs2 e2 hj he => Yb hj hgr (Kd.R_ne h7 hj he))
theorem All.app_iS (hT : Apart dP tA tP tC tL tI tR tK) (h : All dP tA tP tC tL tI tR tK w0 W gC gZ cC cZ vA vC vR vI vc vb vi vl LA LC LR LI lc lb li ll) (hw : Region.wanted o (yielded ops a.tmps) = true) (s x : Operand) (t : TypeId) (y : Int)
  (ho : o.op = .call { callee := .builtin .append, args := #[s, x], argTypes := #[t, t] }) (ht : P.underlying t = some (.slice tL)) (hinfo : (P.info? tL).map (fun i => (i.zero, i.size, i.bytes)) = some (some (.int .i64 0), 1, 8))
  (hs : a.eval s = vi) (g : Nat) (hx : a.eval x = .slice (some ⟨g, 0, none⟩) 1 1) (hgv : W.heap[g]? = some (.cells [.int .i64 y].toArray tL (0, 0))) (hl : (li.length + 1) * 8 ≤ 140737488355328)
  (k : ∀ v1 w1, All dP tA tP tC tL tI tR tK w0 w1 gC gZ cC cZ vA vC vR vI vc vb v1 vl LA LC LR LI lc lb (li ++ [y]) ll → (∀ (j : Nat) (cs2 : Array Value) (e2 : TypeId), W.heap[j]? = some (.cells cs2 e2 (0, 0)) → tL ≠ e2 → w1.heap[j]? = some (.cells cs2 e2 (0, 0))) → Kc (a.put o.dst v1) w1) :
  if Region.wanted o (yielded ops a.tmps) = true then Oper.wp P o a W Kc Q else Kc (a.put o.dst undef) W := by
 have hle := h.le
 obtain ⟨hB, hC, hZ, hg, f, h0, h1, h2, h3, h4, h5, h6, h7⟩ := h
 refine R_append_at (Kd.int .i64) (w0 := w0) w0.heap.size hw s x t tL (.int .i64 0) 8 ho ht hinfo rfl (by show 0 < 1; decide) (by decide) vi li y [.int .i64 y] (tg (upT f W.heap.size 6) 6) (fun _ => False) g hs hx hgv rfl (fun _ hk => hk.elim) (fun k hk => upT_ge hk) (Kd.R_mono (R_tag_in h6) (fun k hk => (Zu hk.2).trans hk.1)) hB hle hl ?_
 intro v1 w1 hr hb hgr _
 have row : ∀ i, i ≠ 6 → ∀ k, vi.ownBlock = some k → f k ≠ i := fun i hi k hk e => hi (e.symm.trans (h6.1 k hk))
 exact k v1 w1 ⟨hb, Yb hC hgr (Kd.R_ne h6 hC hT.l), Yb hZ hgr (Kd.R_ne h6 hZ hT.l), hg, upT f W.heap.size 6, Yc h0 hgr (row 0 (by decide)) (fun k hk e => (Zu hk).trans e), Zy h1 hgr (row 1 (by decide)) (fun k hk e => (Zu hk).trans e), Zy h2 hgr (row 2 (by decide)) (fun k hk e => (Zu hk).trans e), Zy h3 hgr (row 3 (by decide)) (fun k hk e => (Zu hk).trans e), Yc h4 hgr (row 4 (by decide)) (fun k hk e => (Zu hk).trans e), Zy h5 hgr (row 5 (by decide)) (fun k hk e => (Zu hk).trans e), hr, Yc h7 hgr (row 7 (by decide)) (fun k hk e => (Zu hk).trans e)⟩ (fun j cs2 e2 hj he => Yb hj hgr (Kd.R_ne h6 hj he))
theorem All.app_bS (hT : Apart dP tA tP tC tL tI tR tK) (h : All dP tA tP tC tL tI tR tK w0 W gC gZ cC cZ vA vC vR vI vc vb vi vl LA LC LR LI lc lb li ll) (hw : Region.wanted o (yielded ops a.tmps) = true) (s x : Operand) (t : TypeId)
  (ho : o.op = .call { callee := .builtin .append, args := #[s, x], argTypes := #[t, t] }) (ht : P.underlying t = some (.slice tI)) (hinfo : (P.info? tI).map (fun i => (i.zero, i.size, i.bytes)) = some (some (.slice none 0 0), 1, 24))
  (hs : a.eval s = vb) (g : Nat) (hx : a.eval x = .slice (some ⟨g, 0, none⟩) 1 1) (hgv : W.heap[g]? = some (.cells [vl].toArray tI (0, 0))) (hl : (lb.length + 1) * 24 ≤ 140737488355328)
  (k : ∀ v1 w1, All dP tA tP tC tL tI tR tK w0 w1 gC gZ cC cZ vA vC vR vI vc v1 vi (.slice none 0 0) LA LC LR LI lc (lb ++ [ll]) li [] → (∀ (j : Nat) (cs2 : Array Value) (e2 : TypeId), W.heap[j]? = some (.cells cs2 e2 (0, 0)) → tI ≠ e2 → w1.heap[j]? = some (.cells cs2 e2 (0, 0))) → Kc (a.put o.dst v1) w1) :
  if Region.wanted o (yielded ops a.tmps) = true then Oper.wp P o a W Kc Q else Kc (a.put o.dst undef) W := by
 have hle := h.le
 obtain ⟨hB, hC, hZ, hg, f, h0, h1, h2, h3, h4, h5, h6, h7⟩ := h
 refine S_append_at (Kd.slice tL (Kd.int .i64)) (w0 := w0) w0.heap.size hw s x t tI (.slice none 0 0) 24 ho ht hinfo rfl (by show 0 < 1; decide) (by decide) vb lb ll [vl] (tg (mvT f W.heap.size 7 5) 5) (fun k => f k = 7 ∧ k < W.heap.size) g hs hx hgv ⟨vl, rfl, R_tag_in h7⟩ (fun k hk => ⟨mvT_i hk.2 hk.1, fun e => by have h9 : f k = 5 := (Kd.S_R h5).1 k e.symm; have := hk.1; omega⟩) (fun k hk => mvT_ge hk) (Kd.S_mono (S_tag_in h5) (fun k hk => ⟨(mvT_o hk.2 (by rw [hk.1]; decide)).trans hk.1, fun h9 => by have := hk.1; have := h9.1; omega⟩)) hB hle hl ?_
 intro v1 w1 hr hb hgr _
 have row : ∀ i, i ≠ 5 → ∀ k, vb.ownBlock = some k → f k ≠ i := fun i hi k hk e => hi (e.symm.trans ((Kd.S_R h5).1 k hk))
 exact k v1 w1 ⟨hb, Yb hC hgr (Kd.S_ne h5 hC hT.i), Yb hZ hgr (Kd.S_ne h5 hZ hT.i), hg, mvT f W.heap.size 7 5, Yc h0 hgr (row 0 (by decide)) (Yi (by decide)), Zy h1 hgr (row 1 (by decide)) (Yi (by decide)), Zy h2 hgr (row 2 (by decide)) (Yi (by decide)), Zy h3 hgr (row 3 (by decide)) (Yi (by decide)), Yc h4 hgr (row 4 (by decide)) (Yi (by decide)), hr, Yc h6 hgr (row 6 (by decide)) (Yi (by decide)), Kd.R_nil _ _ _ _ _⟩ (fun j cs2 e2 hj he => Yb hj hgr (Kd.S_ne h5 hj he))
end
end Go.Proofs.Ytepkfigcnnfoaaa.Deep
