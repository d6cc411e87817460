/- What the marks come to: each row's numbers, and that a look at them afterwards finds them; markChecker's walk. -/
import Derived.Test.YtepkfigcnnfoaaaMark
import Derived.Test.YtepkfigcnnfoaaaPx38
import Derived.Test.YtepkfigcnnfoaaaPx42
import Derived.Test.YtepkfigcnnfoaaaPx14
import Derived.Test.YtepkfigcnnfoaaaBuilt
namespace Go.Proofs.Ytepkfigcnnfoaaa.P
open Go.RowKit Go.Proofs.YtepkfigcnnfoaaaW.PrintWords Go.Proofs.YtepkfigcnnfoaaaW.PrintLast Go.Proofs.YtepkfigcnnfoaaaW.PrintMore Go.Proofs.Ytepkfigcnnfoaaa.Deep
set_option linter.unusedVariables false
set_option linter.unusedSimpArgs false
def upI (a : Int) (n : Nat) : List Int := (List.range n).map fun (i : Nat) => a + (i : Int)
def upP (a : Int) (n : Nat) : List S47 := (List.range n).map fun (i : Nat) => ⟨a + 2 * (i : Int), a + 2 * (i : Int) + 1⟩
def upB (a : Int) (n : Nat) : List Bool := (List.range n).map fun (i : Nat) => (Int.tmod (a + (i : Int)) 3 == 0)
theorem upI_succ (a : Int) (n : Nat) : upI a (n + 1) = upI a n ++ [a + (n : Int)] := by simp [upI, List.range_succ]
theorem upP_succ (a : Int) (n : Nat) : upP a (n + 1) = upP a n ++ [⟨a + 2 * (n : Int), a + 2 * (n : Int) + 1⟩] := by simp [upP, List.range_succ]
theorem upB_succ (a : Int) (n : Nat) : upB a (n + 1) = upB a n ++ [(Int.tmod (a + (n : Int)) 3 == 0)] := by simp [upB, List.range_succ]
theorem upI_len (a : Int) (n : Nat) : (upI a n).length = n := by simp [upI]
theorem upP_len (a : Int) (n : Nat) : (upP a n).length = n := by simp [upP]
theorem upB_len (a : Int) (n : Nat) : (upB a n).length = n := by simp [upB]
theorem upI_get (a : Int) (n j : Nat) (h : j < n) : rd (upI a n) j = a + j := by
  unfold rd upI
  rw [Int.toNat_natCast, List.getD_eq_getElem?_getD, List.getElem?_map, List.getElem?_range h]; rfl
theorem upP_get (a : Int) (n j : Nat) (h : j < n) : rd_T47 (upP a n) j = ⟨a + 2 * (j : Int), a + 2 * (j : Int) + 1⟩ := by
  unfold rd_T47 upP
  rw [Int.toNat_natCast, List.getD_eq_getElem?_getD, List.getElem?_map, List.getElem?_range h]; rfl
theorem upB_get (a : Int) (n j : Nat) (h : j < n) : rdOf false (upB a n) j = (Int.tmod (a + (j : Int)) 3 == 0) := by
  unfold rdOf upB
  rw [Int.toNat_natCast, List.getD_eq_getElem?_getD, List.getElem?_map, List.getElem?_range h]; rfl
/-! ### flat rows marked -/
theorem markI (l : List Int) (hl : l.length ≤ 1000000) (a : Int) (h0 : 0 ≤ a) (h1 : a ≤ 4611686018427387904) : ∀ d i k : Nat, i + d = l.length → d < k →
    laws_markInt64S.l0 k (upI a i ++ l.drop i) (a + i) i = some (a + (l.length : Int), upI a l.length)
  | _, _, 0, _, hk => by omega
  | 0, i, k + 1, hi, _ => by
    obtain rfl : i = l.length := by omega
    have : (upI a l.length ++ l.drop l.length).length = l.length := by simp [upI_len]
    simp only [laws_markInt64S.l0, this, if_neg (show ¬ (l.length : Int) < (l.length : Int) by omega)]
    simp
  | d + 1, i, k + 1, hi, hk => by
    have hnext := markI l hl a h0 h1 d (i + 1) k (by omega) (by omega)
    have hlen : (upI a i ++ l.drop i).length = l.length := by simp [upI_len]; omega
    have hset : (upI a i ++ l.drop i).set i (a + i) = upI a (i + 1) ++ l.drop (i + 1) := by
      rw [List.drop_eq_getElem_cons (by omega : i < l.length), List.set_append_right _ _ (by rw [upI_len]; exact Nat.le_refl _), upI_len, Nat.sub_self, List.set_cons_zero, upI_succ, List.append_assoc]
      rfl
    have f3 : wrap64 ((i : Int) + 1) = ((i + 1 : Nat) : Int) := by rw [bw' _ (by omega) (by omega)]; omega
    have f4 : wrap64 (a + (i : Int) + 1) = a + ((i + 1 : Nat) : Int) := by rw [bw' _ (by omega) (by omega)]; omega
    simp only [laws_markInt64S.l0, hlen, if_pos (show (i : Int) < (l.length : Int) by omega), if_pos (show (0 : Int) ≤ (i : Int) by omega), f3, f4, Int.toNat_natCast, hset]
    exact hnext
theorem markP (l : List S47) (hl : l.length ≤ 1000000) (a : Int) (h0 : 0 ≤ a) (h1 : a ≤ 4611686018427387904) : ∀ d i k : Nat, i + d = l.length → d < k →
    laws_markPushS.l0 k (upP a i ++ l.drop i) (a + 2 * (i : Int)) i = some (a + 2 * (l.length : Int), upP a l.length)
  | _, _, 0, _, hk => by omega
  | 0, i, k + 1, hi, _ => by
    obtain rfl : i = l.length := by omega
    have : (upP a l.length ++ l.drop l.length).length = l.length := by simp [upP_len]
    simp only [laws_markPushS.l0, this, if_neg (show ¬ (l.length : Int) < (l.length : Int) by omega)]
    simp
  | d + 1, i, k + 1, hi, hk => by
    have hnext := markP l hl a h0 h1 d (i + 1) k (by omega) (by omega)
    have hlen : (upP a i ++ l.drop i).length = l.length := by simp [upP_len]; omega
    have hset : ∀ u z, ((upP a i ++ l.drop i).set i u).set i z = upP a i ++ z :: l.drop (i + 1) := by
      intro u z
      rw [List.set_set, List.drop_eq_getElem_cons (by omega : i < l.length), List.set_append_right _ _ (by rw [upP_len]; exact Nat.le_refl _), upP_len, Nat.sub_self, List.set_cons_zero]
    have hget : ∀ u, rd_T47 ((upP a i ++ l.drop i).set i u) i = u := by
      intro u
      unfold rd_T47
      rw [Int.toNat_natCast, List.getD_eq_getElem?_getD, List.getElem?_set_self (by rw [hlen]; omega)]; rfl
    have f3 : wrap64 ((i : Int) + 1) = ((i + 1 : Nat) : Int) := by rw [bw' _ (by omega) (by omega)]; omega
    have f4 : wrap64 (a + 2 * (i : Int) + 1) = a + 2 * (i : Int) + 1 := bw' _ (by omega) (by omega)
    have f5 : wrap64 (a + 2 * (i : Int) + 1 + 1) = a + 2 * ((i + 1 : Nat) : Int) := by rw [bw' _ (by omega) (by omega)]; omega
    simp only [laws_markPushS.l0, hlen, if_pos (show (i : Int) < (l.length : Int) by omega), if_pos (show (0 : Int) ≤ (i : Int) by omega), f3, f4, f5, Int.toNat_natCast, hset, hget, Option.bind_some]
    rw [upP_succ, List.append_assoc] at hnext
    exact hnext
theorem markB (l : List Bool) (hl : l.length ≤ 1000000) (a : Int) (h0 : 0 ≤ a) (h1 : a ≤ 4611686018427387904) : ∀ d i k : Nat, i + d = l.length → d < k →
    laws_markBoolS.l0 k (upB a i ++ l.drop i) (a + i) i = some (a + (l.length : Int), upB a l.length)
  | _, _, 0, _, hk => by omega
  | 0, i, k + 1, hi, _ => by
    obtain rfl : i = l.length := by omega
    have : (upB a l.length ++ l.drop l.length).length = l.length := by simp [upB_len]
    simp only [laws_markBoolS.l0, this, if_neg (show ¬ (l.length : Int) < (l.length : Int) by omega)]
    simp
  | d + 1, i, k + 1, hi, hk => by
    have hnext := markB l hl a h0 h1 d (i + 1) k (by omega) (by omega)
    have hlen : (upB a i ++ l.drop i).length = l.length := by simp [upB_len]; omega
    have hset : ∀ z, (upB a i ++ l.drop i).set i z = upB a i ++ z :: l.drop (i + 1) := by
      intro z
      rw [List.drop_eq_getElem_cons (by omega : i < l.length), List.set_append_right _ _ (by rw [upB_len]; exact Nat.le_refl _), upB_len, Nat.sub_self, List.set_cons_zero]
    have f3 : wrap64 ((i : Int) + 1) = ((i + 1 : Nat) : Int) := by rw [bw' _ (by omega) (by omega)]; omega
    have f4 : wrap64 (a + (i : Int) + 1) = a + ((i + 1 : Nat) : Int) := by rw [bw' _ (by omega) (by omega)]; omega
    simp only [laws_markBoolS.l0, hlen, if_pos (show (i : Int) < (l.length : Int) by omega), if_pos (show (0 : Int) ≤ (i : Int) by omega), f3, f4, Int.toNat_natCast, hset]
    rw [upB_succ, List.append_assoc] at hnext
    exact hnext
/-! ### .. and looked at -/
theorem heldI (n : Nat) (hl : n ≤ 1000000) (a : Int) (h0 : 0 ≤ a) (h1 : a ≤ 4611686018427387904) : ∀ d i k : Nat, i + d = n → d < k → laws_heldInt64S.l0 k (upI a n) (a + i) i = some (a + (n : Int))
  | _, _, 0, _, hk => by omega
  | 0, i, k + 1, hi, _ => by
    obtain rfl : i = n := by omega
    simp only [laws_heldInt64S.l0, upI_len, if_neg (show ¬ (i : Int) < (i : Int) by omega)]
  | d + 1, i, k + 1, hi, hk => by
    have hnext := heldI n hl a h0 h1 d (i + 1) k (by omega) (by omega)
    have f3 : wrap64 ((i : Int) + 1) = ((i + 1 : Nat) : Int) := by rw [bw' _ (by omega) (by omega)]; omega
    have f4 : wrap64 (a + (i : Int) + 1) = a + ((i + 1 : Nat) : Int) := by rw [bw' _ (by omega) (by omega)]; omega
    simp only [laws_heldInt64S.l0, upI_len, if_pos (show (i : Int) < (n : Int) by omega), if_pos (show (0 : Int) ≤ (i : Int) by omega), f3, f4, upI_get a n i (by omega), if_true]
    exact hnext
theorem heldP (n : Nat) (hl : n ≤ 1000000) (a : Int) (h0 : 0 ≤ a) (h1 : a ≤ 4611686018427387904) : ∀ d i k : Nat, i + d = n → d < k → laws_heldPushS.l0 k (upP a n) (a + 2 * (i : Int)) i = some (a + 2 * (n : Int))
  | _, _, 0, _, hk => by omega
  | 0, i, k + 1, hi, _ => by
    obtain rfl : i = n := by omega
    simp only [laws_heldPushS.l0, upP_len, if_neg (show ¬ (i : Int) < (i : Int) by omega)]
  | d + 1, i, k + 1, hi, hk => by
    have hnext := heldP n hl a h0 h1 d (i + 1) k (by omega) (by omega)
    have f3 : wrap64 ((i : Int) + 1) = ((i + 1 : Nat) : Int) := by rw [bw' _ (by omega) (by omega)]; omega
    have f4 : wrap64 (a + 2 * (i : Int) + 1) = a + 2 * (i : Int) + 1 := bw' _ (by omega) (by omega)
    have f5 : wrap64 (a + 2 * (i : Int) + 1 + 1) = a + 2 * ((i + 1 : Nat) : Int) := by rw [bw' _ (by omega) (by omega)]; omega
    simp only [laws_heldPushS.l0, upP_len, if_pos (show (i : Int) < (n : Int) by omega), if_pos (show (0 : Int) ≤ (i : Int) by omega), f3, f4, f5, upP_get a n i (by omega), if_true]
    exact hnext
theorem heldB (n : Nat) (hl : n ≤ 1000000) (a : Int) (h0 : 0 ≤ a) (h1 : a ≤ 4611686018427387904) : ∀ d i k : Nat, i + d = n → d < k → laws_heldBoolS.l0 k (upB a n) (a + i) i = some (a + (n : Int))
  | _, _, 0, _, hk => by omega
  | 0, i, k + 1, hi, _ => by
    obtain rfl : i = n := by omega
    simp only [laws_heldBoolS.l0, upB_len, if_neg (show ¬ (i : Int) < (i : Int) by omega)]
  | d + 1, i, k + 1, hi, hk => by
    have hnext := heldB n hl a h0 h1 d (i + 1) k (by omega) (by omega)
    have f3 : wrap64 ((i : Int) + 1) = ((i + 1 : Nat) : Int) := by rw [bw' _ (by omega) (by omega)]; omega
    have f4 : wrap64 (a + (i : Int) + 1) = a + ((i + 1 : Nat) : Int) := by rw [bw' _ (by omega) (by omega)]; omega
    simp only [laws_heldBoolS.l0, upB_len, if_pos (show (i : Int) < (n : Int) by omega), if_pos (show (0 : Int) ≤ (i : Int) by omega), f3, f4, upB_get a n i (by omega), bne_self_eq_false, Bool.false_eq_true, if_false]
    exact hnext
/-! ### rows of rows, looked at -/
section
variable {α : Type} (sz : α → Nat) (mk : α → Int → α)
theorem mks_get (xs : List α) (a : Int) (i : Nat) (h : i < xs.length) (z : α) : (mks sz mk xs a).getD i z = mk xs[i] (a + (tot sz (xs.take i) : Int)) := by
  have h1 : (mks sz mk (xs.take i) a).length = i := by rw [mks_length, List.length_take]; omega
  conv => lhs; rw [← List.take_append_drop i xs, List.drop_eq_getElem_cons h, mks_append, mks]
  rw [List.getD_eq_getElem?_getD, List.getElem?_append_right (by omega), h1, Nat.sub_self]
  rfl
theorem helds {β : Type} (L : Nat → List β → Int → Int → Option Int) (f : Nat → β → Int → Option Int) (rdg : List β → Int → β) (z : β) (hrd : ∀ l (j : Nat), rdg l (j : Int) = l.getD j z)
    (hL : ∀ k x0 x1 x5, L (k + 1) x0 x1 x5 = if x5 < (x0.length : Int) then (if 0 ≤ x5 then ((f k (rdg x0 x5) x1).bind fun t => (if t < 0 then (some (-1)) else (L k x0 t (wrap64 (x5 + 1))))) else none) else some x1)
    (sz : β → Nat) (mk : β → Int → β) (xs : List β) (hl : xs.length ≤ 1000000) (a : Int) (h0 : 0 ≤ a) (M : Nat)
    (hf : ∀ i (h : i < xs.length) k, M ≤ k → f k (mk xs[i] (a + (tot sz (xs.take i) : Int))) (a + (tot sz (xs.take i) : Int)) = some (a + (tot sz (xs.take i) : Int) + (sz xs[i] : Int))) :
    ∀ d i k : Nat, i + d = xs.length → d + M < k → L k (mks sz mk xs a) (a + (tot sz (xs.take i) : Int)) i = some (a + (tot sz xs : Int))
  | _, _, 0, _, hk => by omega
  | 0, i, k + 1, hi, _ => by
    obtain rfl : i = xs.length := by omega
    rw [hL, mks_length, if_neg (by omega), List.take_length]
  | d + 1, i, k + 1, hi, hk => by
    have hnext := helds L f rdg z hrd hL sz mk xs hl a h0 M hf d (i + 1) k (by omega) (by omega)
    have f3 : wrap64 ((i : Int) + 1) = ((i + 1 : Nat) : Int) := by rw [bw' _ (by omega) (by omega)]; omega
    rw [hL, mks_length, if_pos (by omega), if_pos (by omega), hrd, mks_get sz mk xs a i (by omega), hf i (by omega) k (by omega), Option.bind_some, if_neg (by omega), f3]
    rw [tot_succ sz xs i (by omega)] at hnext
    rw [Int.natCast_add, ← Int.add_assoc] at hnext
    exact hnext
end
def szI (x : List Int) : Nat := x.length
def szP (x : List S47) : Nat := 2 * x.length
def mkI (x : List Int) (a : Int) : List Int := upI a x.length
def mkP (x : List S47) (a : Int) : List S47 := upP a x.length
def szII : List (List Int) → Nat := tot szI
def mkII : List (List Int) → Int → List (List Int) := mks szI mkI
/-- What is not too long. -/
def okI (x : List Int) : Prop := x.length ≤ 1000000
def okP (x : List S47) : Prop := x.length ≤ 1000000
def okII (x : List (List Int)) : Prop := x.length ≤ 1000000 ∧ ∀ y ∈ x, okI y
theorem heldPP (xs : List (List S47)) (hl : xs.length ≤ 1000000) (hx : ∀ x ∈ xs, okP x) (a : Int) (h0 : 0 ≤ a) (h1 : a + (tot szP xs : Int) ≤ 4611686018427387904) (k : Nat) (hk : 3000000 < k) : laws_heldPushSS.f k (mks szP mkP xs a) a = some (a + (tot szP xs : Int)) := by
  show laws_heldPushSS.l0 k (mks szP mkP xs a) a 0 = _
  have := helds laws_heldPushSS.l0 laws_heldPushS.f rd_L3 [] (fun l j => by unfold rd_L3; rw [Int.toNat_natCast]) (fun _ _ _ _ => rfl) szP mkP xs hl a h0 1000001 (fun i h k hk => ?_) xs.length 0 k (by omega) (by omega)
  · simpa [tot] using this
  · have ht := tot_take_le szP xs i
    have ho : xs[i].length ≤ 1000000 := hx _ (List.getElem_mem h)
    have := heldP xs[i].length ho (a + (tot szP (xs.take i) : Int)) (by omega) (by omega) xs[i].length 0 k (by omega) (by omega)
    simpa [laws_heldPushS.f, mkP, szP] using this
theorem heldII (xs : List (List Int)) (hx : okII xs) (a : Int) (h0 : 0 ≤ a) (h1 : a + (tot szI xs : Int) ≤ 4611686018427387904) (k : Nat) (hk : 3000000 < k) : laws_heldInt64SS.f k (mkII xs a) a = some (a + (szII xs : Int)) := by
  show laws_heldInt64SS.l0 k (mks szI mkI xs a) a 0 = some (a + (tot szI xs : Int))
  have := helds laws_heldInt64SS.l0 laws_heldInt64S.f rd_L4 [] (fun l j => by unfold rd_L4; rw [Int.toNat_natCast]) (fun _ _ _ _ => rfl) szI mkI xs hx.1 a h0 1000001 (fun i h k hk => ?_) xs.length 0 k (by omega) (by have := hx.1; omega)
  · simpa [tot] using this
  · have ht := tot_take_le szI xs i
    have ho : xs[i].length ≤ 1000000 := hx.2 _ (List.getElem_mem h)
    have := heldI xs[i].length ho (a + (tot szI (xs.take i) : Int)) (by omega) (by omega) xs[i].length 0 k (by omega) (by omega)
    simpa [laws_heldInt64S.f, mkI, szI] using this
theorem tot_le {α : Type} (sz : α → Nat) : ∀ (xs : List α) (i : Nat) (h : i < xs.length), tot sz (xs.take i) + sz xs[i] ≤ tot sz xs := by
  intro xs i h
  rw [← tot_succ sz xs i h]
  exact tot_take_le sz xs (i + 1)
theorem heldIII (xs : List (List (List Int))) (hl : xs.length ≤ 1000000) (hx : ∀ x ∈ xs, okII x) (a : Int) (h0 : 0 ≤ a) (h1 : a + (tot szII xs : Int) ≤ 4611686018427387904) (k : Nat) (hk : 6000000 < k) : laws_heldInt64SSS.f k (mks szII mkII xs a) a = some (a + (tot szII xs : Int)) := by
  show laws_heldInt64SSS.l0 k (mks szII mkII xs a) a 0 = _
  have := helds laws_heldInt64SSS.l0 laws_heldInt64SS.f rd_L5 [] (fun l j => by unfold rd_L5; rw [Int.toNat_natCast]) (fun _ _ _ _ => rfl) szII mkII xs hl a h0 3000001 (fun i h k hk => ?_) xs.length 0 k (by omega) (by omega)
  · simpa [tot] using this
  · have ht := tot_le szII xs i h
    exact heldII xs[i] (hx _ (List.getElem_mem h)) _ (by omega) (by show a + (tot szII (xs.take i) : Int) + (szII xs[i] : Int) ≤ _; omega) k (by omega)
/-! ### the contracts -/
theorem ownB {α : Type} {d : Kd α} {e : TypeId} {W W' : World} {w0 : World} {u : Value} {x y : List α} {oki : Nat → Prop} (hd : ∀ {ok1 ok2 : Nat → Prop} {x : α} {cs : List Value}, d.M W' w0.heap.size ok1 x cs → d.M W' w0.heap.size ok2 x cs) (h : d.R e W w0.heap.size oki u x) (h' : d.R e W' w0.heap.size (fun k_ => (oki k_ ∨ W.heap.size ≤ k_)) u y) : d.R e W' w0.heap.size oki u y :=
  Kd.R_flat hd h' (fun k hk _ => h.1 k hk)
theorem markPushSS_calls (w0 : World) (v : Value) (xs : List (List S47)) (a : Int) (ok : Nat → Prop) (w : World) (hlen : xs.length ≤ 1000000) (hx : ∀ x ∈ xs, okP x) (h0 : 0 ≤ a) (h1 : a + (tot szP xs : Int) ≤ 4611686018427387904) (hB : Below w0.heap.size w0 w) (hS : Kd.S (Kd.slice 47 k47) 48 w w0.heap.size ok v xs) :
    Calls Try.prog 39 #[v, .int .i64 a] w fun e w' => e = .returned (.int .i64 (a + (tot szP xs : Int))) ∧ Kd.S (Kd.slice 47 k47) 48 w' w0.heap.size ok v (mks szP mkP xs a) ∧ Below w0.heap.size w0 w' ∧ Kept w w' ok := by
  refine markPushSS_walk szP mkP (fun x a => okP x ∧ 0 ≤ a ∧ a ≤ 4611686018427387904) w0 (fun W u x a oki hp hB hR => ?_) v xs a ok w (fun i h => ⟨hx _ (List.getElem_mem h), by omega, by have := tot_le szP xs i h; omega⟩) hlen hB hS
  have hm := markP x hp.1 a hp.2.1 hp.2.2 x.length 0 (x.length + 1) (by omega) (by omega)
  refine (laws_markPushS.calls (x.length + 1) oki u x a (a + 2 * (x.length : Int)) (upP a x.length) w0 W hB hR (by simpa [laws_markPushS.f, upP] using hm)).mono ?_
  rintro e W' ⟨rfl, hR2, hB2, hK⟩
  exact ⟨by unfold szP; simp, ownB (fun h => h) hR hR2, hB2, hK⟩
theorem markInt64SS_calls (w0 : World) (v : Value) (xs : List (List Int)) (a : Int) (ok : Nat → Prop) (w : World) (hx : okII xs) (h0 : 0 ≤ a) (h1 : a + (szII xs : Int) ≤ 4611686018427387904) (hB : Below w0.heap.size w0 w) (hS : Kd.S (Kd.slice 2 (Kd.int .i64)) 49 w w0.heap.size ok v xs) :
    Calls Try.prog 41 #[v, .int .i64 a] w fun e w' => e = .returned (.int .i64 (a + (szII xs : Int))) ∧ Kd.S (Kd.slice 2 (Kd.int .i64)) 49 w' w0.heap.size ok v (mkII xs a) ∧ Below w0.heap.size w0 w' ∧ Kept w w' ok := by
  refine markInt64SS_walk szI mkI (fun x a => okI x ∧ 0 ≤ a ∧ a ≤ 4611686018427387904) w0 (fun W u x a oki hp hB hR => ?_) v xs a ok w (fun i h => ⟨hx.2 _ (List.getElem_mem h), by omega, by have := tot_le szI xs i h; have : szII xs = tot szI xs := rfl; omega⟩) hx.1 hB hS
  have hm := markI x hp.1 a hp.2.1 hp.2.2 x.length 0 (x.length + 1) (by omega) (by omega)
  refine (laws_markInt64S.calls (x.length + 1) oki u x a (a + (x.length : Int)) (upI a x.length) w0 W hB hR (by simpa [laws_markInt64S.f, upI] using hm)).mono ?_
  rintro e W' ⟨rfl, hR2, hB2, hK⟩
  exact ⟨rfl, ownB (fun h => h) hR hR2, hB2, hK⟩
theorem markInt64SSS_calls (w0 : World) (v : Value) (xs : List (List (List Int))) (a : Int) (ok : Nat → Prop) (w : World) (hlen : xs.length ≤ 1000000) (hx : ∀ x ∈ xs, okII x) (h0 : 0 ≤ a) (h1 : a + (tot szII xs : Int) ≤ 4611686018427387904) (hB : Below w0.heap.size w0 w) (hS : Kd.S (sliceS 49 (Kd.slice 2 (Kd.int .i64))) 25 w w0.heap.size ok v xs) :
    Calls Try.prog 40 #[v, .int .i64 a] w fun e w' => e = .returned (.int .i64 (a + (tot szII xs : Int))) ∧ Kd.S (sliceS 49 (Kd.slice 2 (Kd.int .i64))) 25 w' w0.heap.size ok v (mks szII mkII xs a) ∧ Below w0.heap.size w0 w' ∧ Kept w w' ok := by
  refine markInt64SSS_walk szII mkII (fun x a => okII x ∧ 0 ≤ a ∧ a + (szII x : Int) ≤ 4611686018427387904) w0 (fun W u x a oki hp hB hR => ?_) v xs a ok w (fun i h => ⟨hx _ (List.getElem_mem h), by omega, by have := tot_le szII xs i h; omega⟩) hlen hB hS
  exact markInt64SS_calls w0 u x a oki W hp.1 hp.2.1 hp.2.2 hB hR
theorem markBoolS_calls (w0 : World) (v : Value) (xs : List Bool) (a : Int) (ok : Nat → Prop) (w : World) (hlen : xs.length ≤ 1000000) (h0 : 0 ≤ a) (h1 : a ≤ 4611686018427387904) (hB : Below w0.heap.size w0 w) (hS : Kd.bool.R 4 w w0.heap.size ok v xs) :
    Calls Try.prog 38 #[v, .int .i64 a] w fun e w' => e = .returned (.int .i64 (a + (xs.length : Int))) ∧ Kd.bool.R 4 w' w0.heap.size ok v (upB a xs.length) ∧ Below w0.heap.size w0 w' ∧ Kept w w' ok := by
  have hm := markB xs hlen a h0 h1 xs.length 0 (xs.length + 1) (by omega) (by omega)
  refine (laws_markBoolS.calls (xs.length + 1) ok v xs a (a + (xs.length : Int)) (upB a xs.length) w0 w hB hS (by simpa [laws_markBoolS.f, upB] using hm)).mono ?_
  rintro e W' ⟨rfl, hR2, hB2, hK⟩
  exact ⟨rfl, ownB (fun h => h) hS hR2, hB2, hK⟩
/-- A checker's rows, as long as they may be. -/
structure okC (LA : List Bool) (LC : List (List S47)) (LR : List (List (List Int))) (LI : List (List Int)) : Prop where
  a : LA.length ≤ 1000000
  c : LC.length ≤ 1000000
  c1 : ∀ x ∈ LC, okP x
  r : LR.length ≤ 1000000
  r1 : ∀ x ∈ LR, okII x
  i : okII LI
  s : LA.length + tot szP LC + tot szII LR + szII LI ≤ 1000000000000
def markA (LA : List Bool) : List Bool := upB 1 LA.length
def numC (LA : List Bool) : Int := 1 + (LA.length : Int)
def numR (LA : List Bool) (LC : List (List S47)) : Int := numC LA + (tot szP LC : Int)
def numI (LA : List Bool) (LC : List (List S47)) (LR : List (List (List Int))) : Int := numR LA LC + (tot szII LR : Int)
def numE (LA : List Bool) (LC : List (List S47)) (LR : List (List (List Int))) (LI : List (List Int)) : Int := numI LA LC LR + (szII LI : Int)
theorem heldC (m st : Int) (LA : List Bool) (LC : List (List S47)) (LR : List (List (List Int))) (LI : List (List Int)) (h : okC LA LC LR LI) :
    laws_heldChecker.f 7000000 m st (markA LA) (mks szP mkP LC (numC LA)) (mks szII mkII LR (numR LA LC)) (mkII LI (numI LA LC LR)) 1 = some (numE LA LC LR LI) := by
  obtain ⟨ha, hc, hc1, hr, hr1, hi, hs⟩ := h
  have e1 : laws_heldBoolS.f 7000000 (markA LA) 1 = some (numC LA) := by
    have := heldB LA.length ha 1 (by omega) (by omega) LA.length 0 7000000 (by omega) (by omega)
    simpa [laws_heldBoolS.f, markA, numC] using this
  have e2 := heldPP LC hc hc1 (numC LA) (by unfold numC; omega) (by unfold numC; omega) 7000000 (by omega)
  have e3 := heldIII LR hr hr1 (numR LA LC) (by unfold numR numC; omega) (by unfold numR numC; omega) 7000000 (by omega)
  have e4 := heldII LI hi (numI LA LC LR) (by unfold numI numR numC; omega) (by have : szII LI = tot szI LI := rfl; unfold numI numR numC; omega) 7000000 (by omega)
  unfold laws_heldChecker.f
  rw [e1, Option.bind_some, if_neg (by unfold numC; omega), e2, Option.bind_some, if_neg (by unfold numC; omega)]
  show ((laws_heldInt64SSS.f 7000000 (mks szII mkII LR (numR LA LC)) (numR LA LC)).bind _) = _
  rw [e3, Option.bind_some, if_neg (by unfold numR numC; omega)]
  show ((laws_heldInt64SS.f 7000000 (mkII LI (numI LA LC LR)) (numI LA LC LR)).bind _) = _
  rw [e4, Option.bind_some, if_neg (by unfold numI numR numC; omega)]
  rfl
/-! ### markChecker -/
def tgN (f : Nat → Nat) (N g i : Nat) : Nat → Prop := fun k => (f k = i ∧ k < N) ∧ k ≠ g
set_option maxHeartbeats 4000000 in
set_option maxRecDepth 100000 in
theorem markChecker_calls (w0 w : World) (m st : Int) (vA vC vR vI : Value) (LA : List Bool) (LC : List (List S47)) (LR : List (List (List Int))) (LI : List (List Int)) (hk : okC LA LC LR LI) (hB : Below w0.heap.size w0 w) (hO : OwnC w w0.heap.size vA vC vR vI LA LC LR LI) (g : Nat) (csg : Array Value) (hg : w.heap[g]? = some (.cells csg 27 (0, 0))) :
    Calls Try.prog 13 #[.agg #[.int .i64 m, .int .i64 st, vA, vC, vR, vI], .int .i64 1] w fun e w' => e = .returned (.int .i64 (numE LA LC LR LI)) ∧ OwnC w' w0.heap.size vA vC vR vI (markA LA) (mks szP mkP LC (numC LA)) (mks szII mkII LR (numR LA LC)) (mkII LI (numI LA LC LR)) ∧ Below w0.heap.size w0 w' ∧ w'.heap[g]? = some (.cells csg 27 (0, 0)) := by
  have hu27 := Try.underlying27
  obtain ⟨f, h0, h1, h2, h3⟩ := hO
  obtain ⟨⟨A0, n0, c0, rfl⟩, ⟨A1, n1, c1, rfl⟩, ⟨A2, n2, c2, rfl⟩, ⟨A3, n3, c3, rfl⟩⟩ : (∃ A n c, vA = .slice A n c) ∧ (∃ A n c, vC = .slice A n c) ∧ (∃ A n c, vR = .slice A n c) ∧ (∃ A n c, vI = .slice A n c) := ⟨shapeR h0, shapeS h1, shapeS h2, shapeS h3⟩
  obtain ⟨vA, hvA⟩ : ∃ v, v = Value.slice A0 n0 c0 := ⟨_, rfl⟩
  obtain ⟨vC, hvC⟩ : ∃ v, v = Value.slice A1 n1 c1 := ⟨_, rfl⟩
  obtain ⟨vR, hvR⟩ : ∃ v, v = Value.slice A2 n2 c2 := ⟨_, rfl⟩
  obtain ⟨vI, hvI⟩ : ∃ v, v = Value.slice A3 n3 c3 := ⟨_, rfl⟩
  obtain ⟨N, hN⟩ : ∃ N, N = w.heap.size := ⟨_, rfl⟩
  have HN := Aside0.mk hN
  have HA := Aside0.mk (show Kd.bool.R 4 w w0.heap.size (tgN f N g 0) (Value.slice A0 n0 c0) LA by rw [hN]; exact Kd.R_types (R_tag_in h0) hg (by decide))
  have HC := Aside0.mk (show Kd.S (Kd.slice 47 k47) 48 w w0.heap.size (tgN f N g 1) (Value.slice A1 n1 c1) LC by rw [hN]; exact Kd.S_types (S_tag_in h1) hg (by decide))
  have HR := Aside0.mk (show Kd.S (sliceS 49 (Kd.slice 2 (Kd.int .i64))) 25 w w0.heap.size (tgN f N g 2) (Value.slice A2 n2 c2) LR by rw [hN]; exact Kd.S_types (S_tag_in h2) hg (by decide))
  have HI := Aside0.mk (show Kd.S (Kd.slice 2 (Kd.int .i64)) 49 w w0.heap.size (tgN f N g 3) (Value.slice A3 n3 c3) LI by rw [hN]; exact Kd.S_types (S_tag_in h3) hg (by decide))
  have HB := Aside0.mk hB
  have HK := Aside0.mk hk
  have BG := Aside0.mk hg
  clear h0 h1 h2 h3 hB hk hN hg hvA hvC hvR hvI
  clear vA vC vR vI
  go_enter Try.func13, Try.ntmps13
  go_wp2_with (first | ((with_reducible refine gate_dst (N := 2) rfl ?_); refine box_event ?hg (N := 2) ?hd (cs := #[.int .i64 m, .int .i64 st, .slice A0 n0 c0, .slice A1 n1 c1, .slice A2 n2 c2, .slice A3 n3 c3]) (t := 27) ?hr ?_; (case hd => rfl); (case hg => rfl); (case hr => first | (go_simp; done) | (go_simp; rfl)); intro gb hg W9 hbx hb; have hgr := grown_of_below hb none; have n0_ := Aside0.mk (Kd.R_grown HA.out hgr (fun _ _ e => by cases e)); have n1_ := Aside0.mk (Kd.S_grown HC.out hgr (fun _ _ e => by cases e)); have n2_ := Aside0.mk (Kd.S_grown HR.out hgr (fun _ _ e => by cases e)); have n3_ := Aside0.mk (Kd.S_grown HI.out hgr (fun _ _ e => by cases e)); have BK := Aside0.mk hbx; have GB := Aside0.mk (show N ≤ gb by rw [hg, HN.out]; exact Nat.le_refl _); have n4_ := Aside0.mk (below_step HB.out hb); have n5_ := Aside0.mk (blk_below BG.out hb); clear HA HC HR HI HB BG hgr hbx hb hg; have HA := n0_; have HC := n1_; have HR := n2_; have HI := n3_; have HB := n4_; have BG := n5_; clear n0_ n1_ n2_ n3_ n4_ n5_; have hc2 := (blk_cell BK.out 2 : W9.cell? ⟨gb, 2, none⟩ = _).trans rfl; have hc3 := (blk_cell BK.out 3 : W9.cell? ⟨gb, 3, none⟩ = _).trans rfl; have hc4 := (blk_cell BK.out 4 : W9.cell? ⟨gb, 4, none⟩ = _).trans rfl; have hc5 := (blk_cell BK.out 5 : W9.cell? ⟨gb, 5, none⟩ = _).trans rfl) | ((with_reducible refine gate_callee (f := 38) rfl ?_); refine goesL_ (some 8) rfl rfl Try.func38 (by kernel_rfl) rfl #[.slice A0 n0 c0, .int .i64 1] rfl (by (try simp only [List.map_toArray, List.map_cons, List.map_nil]); first | done | rfl) ?_; refine (markBoolS_calls w0 _ LA 1 _ _ HK.out.a (by omega) (by omega) HB.out HA.out).mono ?_; rintro e W0 ⟨rfl, hR, hB2, hK2⟩; refine ⟨_, rfl, ?_⟩; have n0_ := Aside0.mk hR; have n2_ := Aside0.mk (Kd.S_kept HC.out hK2 (fun k hk hn => absurd (hk.1.1.symm.trans hn.1.1) (by decide))); have n3_ := Aside0.mk (Kd.S_kept HR.out hK2 (fun k hk hn => absurd (hk.1.1.symm.trans hn.1.1) (by decide))); have n4_ := Aside0.mk (Kd.S_kept HI.out hK2 (fun k hk hn => absurd (hk.1.1.symm.trans hn.1.1) (by decide))); have n5_ := Aside0.mk (show W0.heap[gb]? = some (.cells #[.int .i64 m, .int .i64 st, .slice A0 n0 c0, .slice A1 n1 c1, .slice A2 n2 c2, .slice A3 n3 c3] 27 (0, 0)) from (hK2.2 gb (blk_lt BK.out) (fun h => absurd h.1.2 (by have := GB.out; omega))).trans BK.out); have n6_ := Aside0.mk hB2; have n7_ := Aside0.mk ((hK2.2 g (blk_lt BG.out) (fun h => h.2 rfl)).trans BG.out); clear HA HC HR HI BK HB BG hc2 hc3 hc4 hc5 hR hB2 hK2; have HA := n0_; have HC := n2_; have HR := n3_; have HI := n4_; have BK := n5_; have HB := n6_; have BG := n7_; clear n0_ n2_ n3_ n4_ n5_ n6_ n7_; have hc2 := (blk_cell BK.out 2 : W0.cell? ⟨gb, 2, none⟩ = _).trans rfl; have hc3 := (blk_cell BK.out 3 : W0.cell? ⟨gb, 3, none⟩ = _).trans rfl; have hc4 := (blk_cell BK.out 4 : W0.cell? ⟨gb, 4, none⟩ = _).trans rfl; have hc5 := (blk_cell BK.out 5 : W0.cell? ⟨gb, 5, none⟩ = _).trans rfl) | ((with_reducible refine gate_callee (f := 39) rfl ?_); refine goesL_ (some 12) rfl rfl Try.func39 (by kernel_rfl) rfl #[.slice A1 n1 c1, .int .i64 (numC LA)] rfl (by (try simp only [List.map_toArray, List.map_cons, List.map_nil]); first | done | rfl) ?_; refine (markPushSS_calls w0 _ LC (numC LA) _ _ HK.out.c HK.out.c1 (by unfold numC; omega) (by have := HK.out.s; unfold numC; omega) HB.out HC.out).mono ?_; rintro e W1 ⟨rfl, hR, hB2, hK2⟩; refine ⟨_, rfl, ?_⟩; have n0_ := Aside0.mk hR; have n1_ := Aside0.mk (Kd.R_kept HA.out hK2 (fun k hk hn => absurd (hk.1.1.symm.trans hn.1.1) (by decide))); have n3_ := Aside0.mk (Kd.S_kept HR.out hK2 (fun k hk hn => absurd (hk.1.1.symm.trans hn.1.1) (by decide))); have n4_ := Aside0.mk (Kd.S_kept HI.out hK2 (fun k hk hn => absurd (hk.1.1.symm.trans hn.1.1) (by decide))); have n5_ := Aside0.mk (show W1.heap[gb]? = some (.cells #[.int .i64 m, .int .i64 st, .slice A0 n0 c0, .slice A1 n1 c1, .slice A2 n2 c2, .slice A3 n3 c3] 27 (0, 0)) from (hK2.2 gb (blk_lt BK.out) (fun h => absurd h.1.2 (by have := GB.out; omega))).trans BK.out); have n6_ := Aside0.mk hB2; have n7_ := Aside0.mk ((hK2.2 g (blk_lt BG.out) (fun h => h.2 rfl)).trans BG.out); clear HA HC HR HI BK HB BG hc2 hc3 hc4 hc5 hR hB2 hK2; have HA := n1_; have HC := n0_; have HR := n3_; have HI := n4_; have BK := n5_; have HB := n6_; have BG := n7_; clear n0_ n1_ n3_ n4_ n5_ n6_ n7_; have hc2 := (blk_cell BK.out 2 : W1.cell? ⟨gb, 2, none⟩ = _).trans rfl; have hc3 := (blk_cell BK.out 3 : W1.cell? ⟨gb, 3, none⟩ = _).trans rfl; have hc4 := (blk_cell BK.out 4 : W1.cell? ⟨gb, 4, none⟩ = _).trans rfl; have hc5 := (blk_cell BK.out 5 : W1.cell? ⟨gb, 5, none⟩ = _).trans rfl) | ((with_reducible refine gate_callee (f := 40) rfl ?_); refine goesL_ (some 16) rfl rfl Try.func40 (by kernel_rfl) rfl #[.slice A2 n2 c2, .int .i64 (numR LA LC)] rfl (by (try simp only [List.map_toArray, List.map_cons, List.map_nil]); first | done | rfl) ?_; refine (markInt64SSS_calls w0 _ LR (numR LA LC) _ _ HK.out.r HK.out.r1 (by unfold numR numC; omega) (by have := HK.out.s; unfold numR numC; omega) HB.out HR.out).mono ?_; rintro e W2 ⟨rfl, hR, hB2, hK2⟩; refine ⟨_, rfl, ?_⟩; have n0_ := Aside0.mk hR; have n1_ := Aside0.mk (Kd.R_kept HA.out hK2 (fun k hk hn => absurd (hk.1.1.symm.trans hn.1.1) (by decide))); have n2_ := Aside0.mk (Kd.S_kept HC.out hK2 (fun k hk hn => absurd (hk.1.1.symm.trans hn.1.1) (by decide))); have n4_ := Aside0.mk (Kd.S_kept HI.out hK2 (fun k hk hn => absurd (hk.1.1.symm.trans hn.1.1) (by decide))); have n5_ := Aside0.mk (show W2.heap[gb]? = some (.cells #[.int .i64 m, .int .i64 st, .slice A0 n0 c0, .slice A1 n1 c1, .slice A2 n2 c2, .slice A3 n3 c3] 27 (0, 0)) from (hK2.2 gb (blk_lt BK.out) (fun h => absurd h.1.2 (by have := GB.out; omega))).trans BK.out); have n6_ := Aside0.mk hB2; have n7_ := Aside0.mk ((hK2.2 g (blk_lt BG.out) (fun h => h.2 rfl)).trans BG.out); clear HA HC HR HI BK HB BG hc2 hc3 hc4 hc5 hR hB2 hK2; have HA := n1_; have HC := n2_; have HR := n0_; have HI := n4_; have BK := n5_; have HB := n6_; have BG := n7_; clear n0_ n1_ n2_ n4_ n5_ n6_ n7_; have hc2 := (blk_cell BK.out 2 : W2.cell? ⟨gb, 2, none⟩ = _).trans rfl; have hc3 := (blk_cell BK.out 3 : W2.cell? ⟨gb, 3, none⟩ = _).trans rfl; have hc4 := (blk_cell BK.out 4 : W2.cell? ⟨gb, 4, none⟩ = _).trans rfl; have hc5 := (blk_cell BK.out 5 : W2.cell? ⟨gb, 5, none⟩ = _).trans rfl) | ((with_reducible refine gate_callee (f := 41) rfl ?_); refine goesL_ (some 20) rfl rfl Try.func41 (by kernel_rfl) rfl #[.slice A3 n3 c3, .int .i64 (numI LA LC LR)] rfl (by (try simp only [List.map_toArray, List.map_cons, List.map_nil]); first | done | rfl) ?_; refine (markInt64SS_calls w0 _ LI (numI LA LC LR) _ _ HK.out.i (by unfold numI numR numC; omega) (by have := HK.out.s; unfold numI numR numC; omega) HB.out HI.out).mono ?_; rintro e W3 ⟨rfl, hR, hB2, hK2⟩; refine ⟨_, rfl, ?_⟩; have n0_ := Aside0.mk hR; have n1_ := Aside0.mk (Kd.R_kept HA.out hK2 (fun k hk hn => absurd (hk.1.1.symm.trans hn.1.1) (by decide))); have n2_ := Aside0.mk (Kd.S_kept HC.out hK2 (fun k hk hn => absurd (hk.1.1.symm.trans hn.1.1) (by decide))); have n3_ := Aside0.mk (Kd.S_kept HR.out hK2 (fun k hk hn => absurd (hk.1.1.symm.trans hn.1.1) (by decide))); have n5_ := Aside0.mk (show W3.heap[gb]? = some (.cells #[.int .i64 m, .int .i64 st, .slice A0 n0 c0, .slice A1 n1 c1, .slice A2 n2 c2, .slice A3 n3 c3] 27 (0, 0)) from (hK2.2 gb (blk_lt BK.out) (fun h => absurd h.1.2 (by have := GB.out; omega))).trans BK.out); have n6_ := Aside0.mk hB2; have n7_ := Aside0.mk ((hK2.2 g (blk_lt BG.out) (fun h => h.2 rfl)).trans BG.out); clear HA HC HR HI BK HB BG hc2 hc3 hc4 hc5 hR hB2 hK2; have HA := n1_; have HC := n2_; have HR := n3_; have HI := n0_; have BK := n5_; have HB := n6_; have BG := n7_; clear n0_ n1_ n2_ n3_ n5_ n6_ n7_; have hc2 := (blk_cell BK.out 2 : W3.cell? ⟨gb, 2, none⟩ = _).trans rfl; have hc3 := (blk_cell BK.out 3 : W3.cell? ⟨gb, 3, none⟩ = _).trans rfl; have hc4 := (blk_cell BK.out 4 : W3.cell? ⟨gb, 4, none⟩ = _).trans rfl; have hc5 := (blk_cell BK.out 5 : W3.cell? ⟨gb, 5, none⟩ = _).trans rfl))
  go_ret
  exact ⟨rfl, ⟨f, Kd.R_mono HA.out (fun _ hk => hk.1.1), Kd.S_mono HC.out (fun _ hk => hk.1.1), Kd.S_mono HR.out (fun _ hk => hk.1.1), Kd.S_mono HI.out (fun _ hk => hk.1.1)⟩, HB.out, BG.out⟩
end Go.Proofs.Ytepkfigcnnfoaaa.P
