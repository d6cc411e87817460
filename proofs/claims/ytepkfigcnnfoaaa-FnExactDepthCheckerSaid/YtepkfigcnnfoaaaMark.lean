/- Rows of rows that are marked: the walks of markPushSS, markInt64SS and markInt64SSS, rows told apart through and through. Written by a program of this session (mkmark.py). -/
import Derived.Test.YtepkfigcnnfoaaaPx0
import Derived.Test.YtepkfigcnnfoaaaPx86
import Derived.Test.YtepkfigcnnfoaaaPx87
import Derived.Test.YtepkfigcnnfoaaaDeep
namespace Go.Proofs.Ytepkfigcnnfoaaa.P
open Go.RowKit Go.Proofs.YtepkfigcnnfoaaaW.PrintWords Go.Proofs.YtepkfigcnnfoaaaW.PrintLast Go.Proofs.YtepkfigcnnfoaaaW.PrintMore Go.Proofs.Ytepkfigcnnfoaaa.Deep
set_option linter.unusedVariables false
set_option linter.unusedSimpArgs false
/-- Elements marked one behind the other, from a number on. -/
def mks {α : Type} (sz : α → Nat) (mk : α → Int → α) : List α → Int → List α
  | [], _ => []
  | x :: xs, a => mk x a :: mks sz mk xs (a + (sz x : Int))
def tot {α : Type} (sz : α → Nat) : List α → Nat
  | [] => 0
  | x :: xs => sz x + tot sz xs
section
variable {α : Type} (sz : α → Nat) (mk : α → Int → α)
theorem mks_length : ∀ (xs : List α) (a : Int), (mks sz mk xs a).length = xs.length
  | [], _ => rfl
  | x :: xs, a => by simp [mks, mks_length xs]
theorem tot_append : ∀ (xs ys : List α), tot sz (xs ++ ys) = tot sz xs + tot sz ys
  | [], ys => by simp [tot]
  | x :: xs, ys => by simp only [List.cons_append, tot, tot_append xs]; omega
theorem mks_append : ∀ (xs ys : List α) (a : Int), mks sz mk (xs ++ ys) a = mks sz mk xs a ++ mks sz mk ys (a + (tot sz xs : Int))
  | [], ys, a => by simp [mks, tot]
  | x :: xs, ys, a => by simp [mks, mks_append xs, tot, Int.add_assoc]
/-- What stands when i elements are marked. -/
def part (xs : List α) (a : Int) (i : Nat) : List α := mks sz mk (xs.take i) a ++ xs.drop i
theorem part_length (xs : List α) (a : Int) (i : Nat) : (part sz mk xs a i).length = xs.length := by simp [part, mks_length]; omega
theorem part_zero (xs : List α) (a : Int) : part sz mk xs a 0 = xs := by simp [part, mks]
theorem part_all (xs : List α) (a : Int) : part sz mk xs a xs.length = mks sz mk xs a := by simp [part]
theorem part_at (xs : List α) (a : Int) (i : Nat) (h : i < xs.length) (z : α) : (part sz mk xs a i).getD i z = xs[i] := by
  have h1 : (mks sz mk (xs.take i) a).length = i := by rw [mks_length, List.length_take]; omega
  unfold part
  rw [List.getD_eq_getElem?_getD, List.getElem?_append_right (by omega), h1, Nat.sub_self, List.getElem?_drop, Nat.add_zero, List.getElem?_eq_getElem h]
  rfl
theorem part_succ (xs : List α) (a : Int) (i : Nat) (h : i < xs.length) : (part sz mk xs a i).set i (mk xs[i] (a + (tot sz (xs.take i) : Int))) = part sz mk xs a (i + 1) := by
  have h1 : (mks sz mk (xs.take i) a).length = i := by rw [mks_length, List.length_take]; omega
  unfold part
  rw [List.set_append_right _ _ (by omega), h1, Nat.sub_self, List.drop_eq_getElem_cons h, List.set_cons_zero, List.take_succ_eq_append_getElem h, mks_append]
  simp [mks]
theorem tot_succ (xs : List α) (i : Nat) (h : i < xs.length) : tot sz (xs.take (i + 1)) = tot sz (xs.take i) + sz xs[i] := by
  rw [List.take_succ_eq_append_getElem h, tot_append]; simp [tot]
theorem tot_take_le (xs : List α) (i : Nat) : tot sz (xs.take i) ≤ tot sz xs := by
  have := tot_append sz (xs.take i) (xs.drop i)
  rw [List.take_append_drop] at this
  omega
end
theorem bw' (x : Int) (h0 : -9223372036854775808 ≤ x) (h1 : x ≤ 9223372036854775807) : wrap64 x = x := by unfold wrap64; omega


section
variable (sz : List S47 → Nat) (mk : List S47 → Int → List S47)
set_option maxHeartbeats 4000000 in
set_option maxRecDepth 100000 in
theorem markPushSS_walk (P : List S47 → Int → Prop) (w0 : World)
    (EL : ∀ (W : World) (u : Value) (x : List S47) (a : Int) (oki : Nat → Prop), P x a → Below w0.heap.size w0 W → k47.R 47 W w0.heap.size oki u x → Calls Try.prog 86 #[u, .int .i64 a] W fun e W' => e = .returned (.int .i64 (a + (sz x : Int))) ∧ k47.R 47 W' w0.heap.size oki u (mk x a) ∧ Below w0.heap.size w0 W' ∧ Kept W W' oki)
    (v : Value) (xs : List (List S47)) (a : Int) (ok : Nat → Prop) (w : World) (hP : ∀ i (h : i < xs.length), P xs[i] (a + (tot sz (xs.take i) : Int))) (hlen : xs.length ≤ 1000000)
    (hB : Below w0.heap.size w0 w) (hS : Kd.S (Kd.slice 47 k47) 48 w w0.heap.size ok v xs) :
    Calls Try.prog 39 #[v, .int .i64 a] w fun e w' => e = .returned (.int .i64 (a + (tot sz xs : Int))) ∧ Kd.S (Kd.slice 47 k47) 48 w' w0.heap.size ok v (mks sz mk xs a) ∧ Below w0.heap.size w0 w' ∧ Kept w w' ok := by
  obtain ⟨A, c, rfl⟩ := Kd.S_slice hS
  obtain ⟨n, hn⟩ : ∃ n : Nat, n = xs.length := ⟨_, rfl⟩
  rw [← hn] at hS ⊢
  have HN := Aside0.mk hn
  have HLE := Aside0.mk hlen
  have HP := Aside0.mk hP
  have HE := Aside0.mk EL
  have HO := Aside0.mk (show Kd.S (Kd.slice 47 k47) 48 w w0.heap.size ok (.slice A n c) (part sz mk xs a 0) by rw [part_zero]; exact hS)
  have HB := Aside0.mk hB
  have HK := Aside0.mk (Kept.refl w ok)
  clear hB hS hP hlen EL hn
  go_enter Try.func39, Try.ntmps39
  go_wp2
  go_loopg [1, 5] (n + 1) (fun kq v1 v5 w' => ∃ i : Nat, v1 = .int .i64 (a + (tot sz (xs.take i) : Int)) ∧ v5 = .int .i64 (i : Int) ∧ Aside0 (kq + i = n + 1) ∧ Aside0 (i ≤ n) ∧ Aside0 (Kd.S (Kd.slice 47 k47) 48 w' w0.heap.size ok (.slice A n c) (part sz mk xs a i)) ∧ Aside0 (Below w0.heap.size w0 w') ∧ Aside0 (Kept w w' ok))
  case atStart => exact ⟨0, by simp [tot], rfl, ⟨rfl⟩, ⟨Nat.zero_le _⟩, HO, HB, HK⟩
  case round =>
    clear HO HB HK
    obtain ⟨i, rfl, rfl, HQ, HI, HO, HB, HK⟩ := hrel
    by_cases hlt : i < n
    · have HL := Aside0.mk hlt
      have c1 : decide ((i : Int) < (n : Int)) = true := decide_eq_true (by omega)
      have c2 : decide (i < n) = true := decide_eq_true hlt
      have hix : i < xs.length := by rw [← HN.out]; exact hlt
      have HX := Aside0.mk hix
      clear hlt
      obtain ⟨gk0, rfl⟩ : ∃ q, gk = q + 1 := ⟨gk - 1, by have := HQ.out; have := HL.out; omega⟩
      obtain ⟨g, cap, hv, _, _, _⟩ := Kd.S_form HO.out (by rw [part_length]; omega)
      injection hv with hv1 hv2 hv3
      subst hv1
      subst hv3
      clear hv2
      obtain ⟨oki, cs, _, hM, hcc, hfr, hoki, hH⟩ := Kd.S_elem HO.out (([] : List S47)) (i : Int) (by omega) (by have := HL.out; omega)
      rw [show ((i : Int)).toNat = i from by simp, part_at sz mk xs a i hix] at hM
      have F1 := part_succ sz mk xs a i hix
      have F2 := tot_succ sz xs i hix
      have F3 := HP.out i hix
      generalize xs[i] = x at hM F1 F2 F3
      have G1 := Aside0.mk F1
      have G2 := Aside0.mk F2
      have G3 := Aside0.mk F3
      clear F1 F2 F3
      obtain ⟨u, rfl, hR⟩ := hM
      have hsh := Kd.R_slice hR
      obtain ⟨Au, cu, rfl⟩ := hsh
      have hx0 : wr.cell? ⟨g, i, none⟩ = some (.slice Au x.length cu) := by have h := hcc 0 _ rfl; rw [show ((i : Int)).toNat * ((Kd.slice 47 k47)).sz + 0 = i from by show ((i : Int)).toNat * 1 + 0 = i; simp] at h; exact h
      have HR := Aside0.mk hR
      have HOK := Aside0.mk hoki
      have HH := Aside0.mk hH
      clear hR hoki hH hcc hfr HO hix
      have p1 : (0 ≤ (i : Int)) = True := eq_true (by omega)
      have p2 : ((i : Int) < (n : Int)) = True := eq_true (by have := HL.out; omega)
      go_wp2_with (first | ((with_reducible refine gate_callee (f := 86) rfl ?_); refine goesL_ (some 17) rfl rfl Try.func86 (by kernel_rfl) rfl #[.slice Au x.length cu, .int .i64 (a + (tot sz (xs.take i) : Int))] rfl (by (try simp only [List.map_toArray, List.map_cons, List.map_nil]); first | done | rfl) ?_; refine (HE.out _ _ _ _ _ G3.out HB.out HR.out).mono ?_; rintro e w' ⟨rfl, hR2, hB2, hK2⟩; refine ⟨_, rfl, ?_⟩))
      go_roundg gk0
      case measure => have := HQ.out; omega
      case rel =>
        have h9 := Kd.H_back (Kd.H_kept HH.out hK2 (fun k _ hn => hn)) (okp := oki) ⟨_, rfl, hR2⟩ (fun k hk => hk)
        rw [show ((i : Int)).toNat = i from by simp, G1.out] at h9
        exact ⟨i + 1, by rw [G2.out]; simp only [Value.int.injEq, true_and]; omega, by simp only [Value.int.injEq, true_and]; rw [bw' _ (by omega) (by have := HL.out; have := HN.out; have := HLE.out; omega)]; omega, ⟨by have := HQ.out; omega⟩, ⟨by have := HL.out; omega⟩, ⟨h9⟩, ⟨hB2⟩, ⟨Kept.then_ HK.out hK2 (fun k hk => .inl (HOK.out k hk).1)⟩⟩
    · have hix : i = xs.length := by have := HI.out; have := HN.out; omega
      have c1 : decide ((i : Int) < (n : Int)) = false := decide_eq_false (by omega)
      have c2 : decide (i < n) = false := decide_eq_false hlt
      have HIX := Aside0.mk hix
      clear hlt hix
      go_wp2
      go_ret
      have hix := HIX.out
      refine ⟨?_, ?_, HB.out, HK.out⟩
      · show Ending.returned (.int .i64 (a + (tot sz (xs.take i) : Int))) = _
        rw [hix, List.take_length]
      · have := HO.out
        rw [hix, part_all] at this
        exact this
end

section
variable (sz : List Int → Nat) (mk : List Int → Int → List Int)
set_option maxHeartbeats 4000000 in
set_option maxRecDepth 100000 in
theorem markInt64SS_walk (P : List Int → Int → Prop) (w0 : World)
    (EL : ∀ (W : World) (u : Value) (x : List Int) (a : Int) (oki : Nat → Prop), P x a → Below w0.heap.size w0 W → (Kd.int .i64).R 2 W w0.heap.size oki u x → Calls Try.prog 87 #[u, .int .i64 a] W fun e W' => e = .returned (.int .i64 (a + (sz x : Int))) ∧ (Kd.int .i64).R 2 W' w0.heap.size oki u (mk x a) ∧ Below w0.heap.size w0 W' ∧ Kept W W' oki)
    (v : Value) (xs : List (List Int)) (a : Int) (ok : Nat → Prop) (w : World) (hP : ∀ i (h : i < xs.length), P xs[i] (a + (tot sz (xs.take i) : Int))) (hlen : xs.length ≤ 1000000)
    (hB : Below w0.heap.size w0 w) (hS : Kd.S (Kd.slice 2 (Kd.int .i64)) 49 w w0.heap.size ok v xs) :
    Calls Try.prog 41 #[v, .int .i64 a] w fun e w' => e = .returned (.int .i64 (a + (tot sz xs : Int))) ∧ Kd.S (Kd.slice 2 (Kd.int .i64)) 49 w' w0.heap.size ok v (mks sz mk xs a) ∧ Below w0.heap.size w0 w' ∧ Kept w w' ok := by
  obtain ⟨A, c, rfl⟩ := Kd.S_slice hS
  obtain ⟨n, hn⟩ : ∃ n : Nat, n = xs.length := ⟨_, rfl⟩
  rw [← hn] at hS ⊢
  have HN := Aside0.mk hn
  have HLE := Aside0.mk hlen
  have HP := Aside0.mk hP
  have HE := Aside0.mk EL
  have HO := Aside0.mk (show Kd.S (Kd.slice 2 (Kd.int .i64)) 49 w w0.heap.size ok (.slice A n c) (part sz mk xs a 0) by rw [part_zero]; exact hS)
  have HB := Aside0.mk hB
  have HK := Aside0.mk (Kept.refl w ok)
  clear hB hS hP hlen EL hn
  go_enter Try.func41, Try.ntmps41
  go_wp2
  go_loopg [1, 5] (n + 1) (fun kq v1 v5 w' => ∃ i : Nat, v1 = .int .i64 (a + (tot sz (xs.take i) : Int)) ∧ v5 = .int .i64 (i : Int) ∧ Aside0 (kq + i = n + 1) ∧ Aside0 (i ≤ n) ∧ Aside0 (Kd.S (Kd.slice 2 (Kd.int .i64)) 49 w' w0.heap.size ok (.slice A n c) (part sz mk xs a i)) ∧ Aside0 (Below w0.heap.size w0 w') ∧ Aside0 (Kept w w' ok))
  case atStart => exact ⟨0, by simp [tot], rfl, ⟨rfl⟩, ⟨Nat.zero_le _⟩, HO, HB, HK⟩
  case round =>
    clear HO HB HK
    obtain ⟨i, rfl, rfl, HQ, HI, HO, HB, HK⟩ := hrel
    by_cases hlt : i < n
    · have HL := Aside0.mk hlt
      have c1 : decide ((i : Int) < (n : Int)) = true := decide_eq_true (by omega)
      have c2 : decide (i < n) = true := decide_eq_true hlt
      have hix : i < xs.length := by rw [← HN.out]; exact hlt
      have HX := Aside0.mk hix
      clear hlt
      obtain ⟨gk0, rfl⟩ : ∃ q, gk = q + 1 := ⟨gk - 1, by have := HQ.out; have := HL.out; omega⟩
      obtain ⟨g, cap, hv, _, _, _⟩ := Kd.S_form HO.out (by rw [part_length]; omega)
      injection hv with hv1 hv2 hv3
      subst hv1
      subst hv3
      clear hv2
      obtain ⟨oki, cs, _, hM, hcc, hfr, hoki, hH⟩ := Kd.S_elem HO.out (([] : List Int)) (i : Int) (by omega) (by have := HL.out; omega)
      rw [show ((i : Int)).toNat = i from by simp, part_at sz mk xs a i hix] at hM
      have F1 := part_succ sz mk xs a i hix
      have F2 := tot_succ sz xs i hix
      have F3 := HP.out i hix
      generalize xs[i] = x at hM F1 F2 F3
      have G1 := Aside0.mk F1
      have G2 := Aside0.mk F2
      have G3 := Aside0.mk F3
      clear F1 F2 F3
      obtain ⟨u, rfl, hR⟩ := hM
      have hsh := Kd.R_slice hR
      obtain ⟨Au, cu, rfl⟩ := hsh
      have hx0 : wr.cell? ⟨g, i, none⟩ = some (.slice Au x.length cu) := by have h := hcc 0 _ rfl; rw [show ((i : Int)).toNat * ((Kd.slice 2 (Kd.int .i64))).sz + 0 = i from by show ((i : Int)).toNat * 1 + 0 = i; simp] at h; exact h
      have HR := Aside0.mk hR
      have HOK := Aside0.mk hoki
      have HH := Aside0.mk hH
      clear hR hoki hH hcc hfr HO hix
      have p1 : (0 ≤ (i : Int)) = True := eq_true (by omega)
      have p2 : ((i : Int) < (n : Int)) = True := eq_true (by have := HL.out; omega)
      go_wp2_with (first | ((with_reducible refine gate_callee (f := 87) rfl ?_); refine goesL_ (some 17) rfl rfl Try.func87 (by kernel_rfl) rfl #[.slice Au x.length cu, .int .i64 (a + (tot sz (xs.take i) : Int))] rfl (by (try simp only [List.map_toArray, List.map_cons, List.map_nil]); first | done | rfl) ?_; refine (HE.out _ _ _ _ _ G3.out HB.out HR.out).mono ?_; rintro e w' ⟨rfl, hR2, hB2, hK2⟩; refine ⟨_, rfl, ?_⟩))
      go_roundg gk0
      case measure => have := HQ.out; omega
      case rel =>
        have h9 := Kd.H_back (Kd.H_kept HH.out hK2 (fun k _ hn => hn)) (okp := oki) ⟨_, rfl, hR2⟩ (fun k hk => hk)
        rw [show ((i : Int)).toNat = i from by simp, G1.out] at h9
        exact ⟨i + 1, by rw [G2.out]; simp only [Value.int.injEq, true_and]; omega, by simp only [Value.int.injEq, true_and]; rw [bw' _ (by omega) (by have := HL.out; have := HN.out; have := HLE.out; omega)]; omega, ⟨by have := HQ.out; omega⟩, ⟨by have := HL.out; omega⟩, ⟨h9⟩, ⟨hB2⟩, ⟨Kept.then_ HK.out hK2 (fun k hk => .inl (HOK.out k hk).1)⟩⟩
    · have hix : i = xs.length := by have := HI.out; have := HN.out; omega
      have c1 : decide ((i : Int) < (n : Int)) = false := decide_eq_false (by omega)
      have c2 : decide (i < n) = false := decide_eq_false hlt
      have HIX := Aside0.mk hix
      clear hlt hix
      go_wp2
      go_ret
      have hix := HIX.out
      refine ⟨?_, ?_, HB.out, HK.out⟩
      · show Ending.returned (.int .i64 (a + (tot sz (xs.take i) : Int))) = _
        rw [hix, List.take_length]
      · have := HO.out
        rw [hix, part_all] at this
        exact this
end

section
variable (sz : List (List Int) → Nat) (mk : List (List Int) → Int → List (List Int))
set_option maxHeartbeats 4000000 in
set_option maxRecDepth 100000 in
theorem markInt64SSS_walk (P : List (List Int) → Int → Prop) (w0 : World)
    (EL : ∀ (W : World) (u : Value) (x : List (List Int)) (a : Int) (oki : Nat → Prop), P x a → Below w0.heap.size w0 W → Kd.S (Kd.slice 2 (Kd.int .i64)) 49 W w0.heap.size oki u x → Calls Try.prog 41 #[u, .int .i64 a] W fun e W' => e = .returned (.int .i64 (a + (sz x : Int))) ∧ Kd.S (Kd.slice 2 (Kd.int .i64)) 49 W' w0.heap.size oki u (mk x a) ∧ Below w0.heap.size w0 W' ∧ Kept W W' oki)
    (v : Value) (xs : List (List (List Int))) (a : Int) (ok : Nat → Prop) (w : World) (hP : ∀ i (h : i < xs.length), P xs[i] (a + (tot sz (xs.take i) : Int))) (hlen : xs.length ≤ 1000000)
    (hB : Below w0.heap.size w0 w) (hS : Kd.S (sliceS 49 (Kd.slice 2 (Kd.int .i64))) 25 w w0.heap.size ok v xs) :
    Calls Try.prog 40 #[v, .int .i64 a] w fun e w' => e = .returned (.int .i64 (a + (tot sz xs : Int))) ∧ Kd.S (sliceS 49 (Kd.slice 2 (Kd.int .i64))) 25 w' w0.heap.size ok v (mks sz mk xs a) ∧ Below w0.heap.size w0 w' ∧ Kept w w' ok := by
  obtain ⟨A, c, rfl⟩ := Kd.S_slice hS
  obtain ⟨n, hn⟩ : ∃ n : Nat, n = xs.length := ⟨_, rfl⟩
  rw [← hn] at hS ⊢
  have HN := Aside0.mk hn
  have HLE := Aside0.mk hlen
  have HP := Aside0.mk hP
  have HE := Aside0.mk EL
  have HO := Aside0.mk (show Kd.S (sliceS 49 (Kd.slice 2 (Kd.int .i64))) 25 w w0.heap.size ok (.slice A n c) (part sz mk xs a 0) by rw [part_zero]; exact hS)
  have HB := Aside0.mk hB
  have HK := Aside0.mk (Kept.refl w ok)
  clear hB hS hP hlen EL hn
  go_enter Try.func40, Try.ntmps40
  go_wp2
  go_loopg [1, 5] (n + 1) (fun kq v1 v5 w' => ∃ i : Nat, v1 = .int .i64 (a + (tot sz (xs.take i) : Int)) ∧ v5 = .int .i64 (i : Int) ∧ Aside0 (kq + i = n + 1) ∧ Aside0 (i ≤ n) ∧ Aside0 (Kd.S (sliceS 49 (Kd.slice 2 (Kd.int .i64))) 25 w' w0.heap.size ok (.slice A n c) (part sz mk xs a i)) ∧ Aside0 (Below w0.heap.size w0 w') ∧ Aside0 (Kept w w' ok))
  case atStart => exact ⟨0, by simp [tot], rfl, ⟨rfl⟩, ⟨Nat.zero_le _⟩, HO, HB, HK⟩
  case round =>
    clear HO HB HK
    obtain ⟨i, rfl, rfl, HQ, HI, HO, HB, HK⟩ := hrel
    by_cases hlt : i < n
    · have HL := Aside0.mk hlt
      have c1 : decide ((i : Int) < (n : Int)) = true := decide_eq_true (by omega)
      have c2 : decide (i < n) = true := decide_eq_true hlt
      have hix : i < xs.length := by rw [← HN.out]; exact hlt
      have HX := Aside0.mk hix
      clear hlt
      obtain ⟨gk0, rfl⟩ : ∃ q, gk = q + 1 := ⟨gk - 1, by have := HQ.out; have := HL.out; omega⟩
      obtain ⟨g, cap, hv, _, _, _⟩ := Kd.S_form HO.out (by rw [part_length]; omega)
      injection hv with hv1 hv2 hv3
      subst hv1
      subst hv3
      clear hv2
      obtain ⟨oki, cs, _, hM, hcc, hfr, hoki, hH⟩ := Kd.S_elem HO.out (([] : List (List Int))) (i : Int) (by omega) (by have := HL.out; omega)
      rw [show ((i : Int)).toNat = i from by simp, part_at sz mk xs a i hix] at hM
      have F1 := part_succ sz mk xs a i hix
      have F2 := tot_succ sz xs i hix
      have F3 := HP.out i hix
      generalize xs[i] = x at hM F1 F2 F3
      have G1 := Aside0.mk F1
      have G2 := Aside0.mk F2
      have G3 := Aside0.mk F3
      clear F1 F2 F3
      obtain ⟨u, rfl, hR⟩ := hM
      have hsh := Kd.S_slice hR
      obtain ⟨Au, cu, rfl⟩ := hsh
      have hx0 : wr.cell? ⟨g, i, none⟩ = some (.slice Au x.length cu) := by have h := hcc 0 _ rfl; rw [show ((i : Int)).toNat * ((sliceS 49 (Kd.slice 2 (Kd.int .i64)))).sz + 0 = i from by show ((i : Int)).toNat * 1 + 0 = i; simp] at h; exact h
      have HR := Aside0.mk hR
      have HOK := Aside0.mk hoki
      have HH := Aside0.mk hH
      clear hR hoki hH hcc hfr HO hix
      have p1 : (0 ≤ (i : Int)) = True := eq_true (by omega)
      have p2 : ((i : Int) < (n : Int)) = True := eq_true (by have := HL.out; omega)
      go_wp2_with (first | ((with_reducible refine gate_callee (f := 41) rfl ?_); refine goesL_ (some 17) rfl rfl Try.func41 (by kernel_rfl) rfl #[.slice Au x.length cu, .int .i64 (a + (tot sz (xs.take i) : Int))] rfl (by (try simp only [List.map_toArray, List.map_cons, List.map_nil]); first | done | rfl) ?_; refine (HE.out _ _ _ _ _ G3.out HB.out HR.out).mono ?_; rintro e w' ⟨rfl, hR2, hB2, hK2⟩; refine ⟨_, rfl, ?_⟩))
      go_roundg gk0
      case measure => have := HQ.out; omega
      case rel =>
        have h9 := Kd.H_back (Kd.H_kept HH.out hK2 (fun k _ hn => hn)) (okp := oki) ⟨_, rfl, hR2⟩ (fun k hk => hk)
        rw [show ((i : Int)).toNat = i from by simp, G1.out] at h9
        exact ⟨i + 1, by rw [G2.out]; simp only [Value.int.injEq, true_and]; omega, by simp only [Value.int.injEq, true_and]; rw [bw' _ (by omega) (by have := HL.out; have := HN.out; have := HLE.out; omega)]; omega, ⟨by have := HQ.out; omega⟩, ⟨by have := HL.out; omega⟩, ⟨h9⟩, ⟨hB2⟩, ⟨Kept.then_ HK.out hK2 (fun k hk => .inl (HOK.out k hk).1)⟩⟩
    · have hix : i = xs.length := by have := HI.out; have := HN.out; omega
      have c1 : decide ((i : Int) < (n : Int)) = false := decide_eq_false (by omega)
      have c2 : decide (i < n) = false := decide_eq_false hlt
      have HIX := Aside0.mk hix
      clear hlt hix
      go_wp2
      go_ret
      have hix := HIX.out
      refine ⟨?_, ?_, HB.out, HK.out⟩
      · show Ending.returned (.int .i64 (a + (tot sz (xs.take i) : Int))) = _
        rw [hix, List.take_length]
      · have := HO.out
        rw [hix, part_all] at this
        exact this
end
end Go.Proofs.Ytepkfigcnnfoaaa.P
