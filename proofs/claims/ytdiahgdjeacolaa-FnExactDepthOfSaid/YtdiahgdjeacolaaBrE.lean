/- The core of a word and the greatest depth, in the program and in the reference. -/
import Derived.Test.YtdiahgdjeacolaaPx40
import Derived.Test.YtdiahgdjeacolaaPx41
import Derived.Test.YtdiahgdjeacolaaPx42
import Derived.Test.YtdiahgdjeacolaaPx43
import Derived.Test.YtdiahgdjeacolaaPx72
import Derived.Test.YtdiahgdjeacolaaPx74
import Derived.Test.YtdiahgdjeacolaaPx75
import Derived.Test.YtdiahgdjeacolaaTh
import Derived.Test.YtdiahgdjeacolaaBrD
namespace Go.Proofs.Ytdiahgdjeacolaa.Br
open Go.RowKit Go.Proofs.Ytdiahgdjeacolaa.P Go.Proofs.YtdiahgdjeacolaaW.PrintWords Go.Proofs.YtdiahgdjeacolaaW.PrintLast Go.Proofs.YtdiahgdjeacolaaW.PrintMore Go.Proofs.Ytdiahgdjeacolaa.Th
set_option linter.unusedVariables false
set_option linter.unusedSimpArgs false

theorem sn_size (l : List Int) : (strOfNums l).size = l.length := by
  simp [strOfNums, ByteArray.size]
theorem sn_bt {l : List Int} (h : ∀ x ∈ l, 0 ≤ x ∧ x ≤ 255) (j : Nat) : bt (strOfNums l) j = g l j := by
  by_cases hj : j < l.length
  · rw [bt_lt (by rw [sn_size]; exact hj)]
    have := h (l[j]) (List.getElem_mem _)
    simp [strOfNums, ByteArray.getElem_eq_getElem_data, g, List.getD_eq_getElem?_getD, hj]
    omega
  · rw [bt_ge (by rw [sn_size]; omega)]
    simp [g, List.getD_eq_getElem?_getD, hj]


theorem sn_snoc (l : List Int) (a : ByteArray) {i : Nat} (hi : i < a.size) : strOfNums l ++ a.extract i (i + 1) = strOfNums (l ++ [bt a i]) := by
  have h : a.extract i (i + 1) = strOfNums [bt a i] := by
    refine ba_ext (by rw [ByteArray.size_extract, sn_size]; simp; omega) ?_
    intro j hj
    rw [ByteArray.size_extract] at hj
    have := bt_range a i
    rw [bt_extract a (by omega) (by omega), sn_bt (by simpa using this), show j = 0 by omega]
    rfl
  rw [h]
  apply ByteArray.ext
  simp [strOfNums]

/-- The bytes at places. -/
def at_ (a : ByteArray) (l : List Int) : List Int := l.map fun x => bt a x

theorem core_loop (a : ByteArray) (hn : a.size ≤ 1048576) (p : List Int) (hp : p.length = a.size) : ∀ d i : Nat, i + d = a.size →
    Ev (fun k => spec_l01Core.l0 k a p (strOfNums (at_ a (sel (fun j => g p j == -2) i))) i) (strOfNums (at_ a (sel (fun j => g p j == -2) a.size))) := by
  intro d
  induction d with
  | zero =>
    intro i hi
    obtain rfl : i = a.size := by omega
    refine Ev.succ ?_
    simp only [spec_l01Core.l0, if_neg (show ¬ (a.size : Int) < (a.size : Int) by omega)]
    exact Ev.now _
  | succ d ih =>
    intro i hi
    have hnext := ih (i + 1) (by omega)
    rw [sel] at hnext
    have b1 : (i : Int) < (a.size : Int) := by omega
    have b2 : (0 : Int) ≤ (i : Int) := by omega
    have b3 : (i : Int) < (p.length : Int) := by omega
    have b4 : (i : Int) ≤ (i : Int) + 1 := by omega
    have b5 : (i : Int) + 1 ≤ (a.size : Int) := by omega
    have l1 := sel_len (f := fun j => g p j == -2) i
    have b6 : (strOfNums (at_ a (sel (fun j => g p j == -2) i))).size + (a.extract i (i + 1)).size ≤ 9223372036854775807 := by
      rw [sn_size, ByteArray.size_extract, at_, List.length_map]; omega
    have b7 : ((i : Int) + 1).toNat = i + 1 := by omega
    have f3 : wrap64 ((i : Int) + 1) = (i : Int) + 1 := w64 (by omega) (by omega)
    refine Ev.succ ?_
    simp only [spec_l01Core.l0, if_pos b1, if_pos b2, if_pos b3, g_rd, f3, if_pos b4, if_pos b5, b7, Int.toNat_natCast, if_pos b6, sn_snoc _ a (show i < a.size by omega)]
    by_cases h : g p i = -2
    · simp only [h, if_true]
      simp only [h, BEq.rfl, if_true] at hnext
      have : at_ a (sel (fun j => g p j == -2) i) ++ [bt a i] = at_ a (sel (fun j => g p j == -2) i ++ [(i : Int)]) := by simp [at_]
      rw [this]
      exact hnext
    · simp only [h, if_false]
      simp only [beq_eq_false_iff_ne.2 h, Bool.false_eq_true, if_false] at hnext
      exact hnext

theorem core_ev (a : ByteArray) (hn : a.size ≤ 1048576) : Ev (fun k => spec_l01Core.f k a) (strOfNums (at_ a ((st (bt a) a.size).r ++ (st (bt a) a.size).c))) := by
  unfold spec_l01Core.f
  refine Ev.bind (partners_ev a hn) ?_
  have := core_loop a hn (st (bt a) a.size).p (basic (bt a) a.size).lp a.size 0 (by omega)
  rw [pend_all] at this
  exact this

theorem iCore_loop (a : ByteArray) (hn : a.size ≤ 1048576) (y : List Int) (hy : y.length ≤ 2097152) (hr : ∀ x ∈ y, 0 ≤ x ∧ x < a.size) : ∀ d i : Nat, i + d = y.length →
    Ev (fun k => impl_CoreOf.l0 k a (at_ a (y.take i)) y y.length i) (strOfNums (at_ a y), 0) := by
  intro d
  induction d with
  | zero =>
    intro i hi
    obtain rfl : i = y.length := by omega
    refine Ev.succ ?_
    simp only [impl_CoreOf.l0, if_neg (show ¬ (y.length : Int) < (y.length : Int) by omega), List.take_length]
    exact Ev.now _
  | succ d ih =>
    intro i hi
    have hnext := ih (i + 1) (by omega)
    have hm : rd y i ∈ y := by
      unfold rd; rw [Int.toNat_natCast, List.getD_eq_getElem?_getD, List.getElem?_eq_getElem (by omega)]; exact List.getElem_mem _
    have b0 := hr _ hm
    have b1 : (i : Int) < (y.length : Int) := by omega
    have b2 : (0 : Int) ≤ (i : Int) := by omega
    have b3 : (at_ a (y.take i)).length < 140737488355328 := by simp [at_]; omega
    have f3 : wrap64 ((i : Int) + 1) = (i : Int) + 1 := w64 (by omega) (by omega)
    refine Ev.succ ?_
    simp only [impl_CoreOf.l0, if_pos b1, if_pos b2, if_pos b0.1, if_pos b0.2, if_pos b3, f3]
    have : at_ a (y.take i) ++ [bt a (rd y i)] = at_ a (y.take (i + 1)) := by
      rw [List.take_succ_eq_append_getElem (by omega : i < y.length), at_, at_, List.map_append, rd, Int.toNat_natCast, List.getD_eq_getElem?_getD, List.getElem?_eq_getElem (show i < y.length by omega)]
      rfl
    rw [this]
    exact hnext

theorem iCore_ev (a : ByteArray) (hn : a.size ≤ 1048576) : Ev (fun k => impl_CoreOf.f k a) (if okw a = true then (strOfNums (at_ a ((st (bt a) a.size).r ++ (st (bt a) a.size).c)), 0) else ((⟨#[]⟩ : ByteArray), 1)) := by
  unfold impl_CoreOf.f
  refine Ev.bind (valid_ev a hn) ?_
  by_cases h : okw a = true
  · have B := basic (bt a) a.size
    have hl : (st (bt a) a.size).r.length + (st (bt a) a.size).c.length < 17592186044416 := by have := B.lr; have := B.lc; omega
    have hl2 : ((st (bt a) a.size).r ++ (st (bt a) a.size).c).length ≤ 2097152 := by have := B.lr; have := B.lc; simp; omega
    have hmem : ∀ x ∈ (st (bt a) a.size).r ++ (st (bt a) a.size).c, 0 ≤ x ∧ x < (a.size : Int) := by
      intro x hx
      rcases List.mem_append.1 hx with h | h
      · exact B.hr x h
      · exact B.hc x h
    simp only [h, if_true]
    refine Ev.bind (match_ev a hn) ?_
    simp only [if_pos hl, Option.bind_some]
    exact iCore_loop a hn _ hl2 hmem _ 0 (Nat.zero_add _)
  · simp only [h, if_false]
    exact Ev.now _

theorem sCore_ev (a : ByteArray) (hn : a.size ≤ 1048576) : Ev (fun k => spec_CoreOf.f k a) (if okw a = true then (strOfNums (at_ a ((st (bt a) a.size).r ++ (st (bt a) a.size).c)), 0) else ((⟨#[]⟩ : ByteArray), 1)) := by
  unfold spec_CoreOf.f
  refine Ev.bind (specOk_ev a hn) ?_
  by_cases h : okw a = true
  · simp only [h, if_true]
    exact Ev.bind (core_ev a hn) (Ev.now _)
  · simp only [h, if_false]
    exact Ev.now _

/-- The greatest of some numbers and a first one. -/
def most (x : Int) (l : List Int) : Int := l.foldl mx x

theorem sDepth_loop (l : List Int) (hl : l.length ≤ 2097152) (R : Int) : ∀ d i : Nat, i + d = l.length → ∀ x : Int, most x (l.drop i) = R →
    Ev (fun k => spec_DepthOf.l0 k x l i) (R, 0) := by
  intro d
  induction d with
  | zero =>
    intro i hi x hx
    refine Ev.succ ?_
    simp only [spec_DepthOf.l0, if_neg (show ¬ (i : Int) < (l.length : Int) by omega)]
    rw [List.drop_eq_nil_of_le (by omega)] at hx
    exact Ev.done (by rw [← hx]; rfl)
  | succ d ih =>
    intro i hi x hx
    have hnext := ih (i + 1) (by omega)
    have b1 : (i : Int) < (l.length : Int) := by omega
    have b2 : (0 : Int) ≤ (i : Int) := by omega
    have f3 : wrap64 ((i : Int) + 1) = (i : Int) + 1 := w64 (by omega) (by omega)
    refine Ev.succ ?_
    have hm : spec_l00Max.f x (rd l i) = some (mx x (rd l i)) := by
      unfold spec_l00Max.f mx
      by_cases h : x > rd l i
      · rw [if_pos h, if_neg (by omega)]
      · rw [if_neg h]; split
        · rfl
        · rw [show x = rd l i by omega]
    simp only [spec_DepthOf.l0, if_pos b1, if_pos b2, f3, hm, Option.bind_some]
    refine hnext _ ?_
    rw [List.drop_eq_getElem_cons (by omega : i < l.length)] at hx
    rw [← hx, rd, Int.toNat_natCast, List.getD_eq_getElem?_getD, List.getElem?_eq_getElem (show i < l.length by omega)]
    rfl

theorem max_loop (l : List Int) (hl : l.length ≤ 2097152) (R : Int) : ∀ d i : Nat, i + d = l.length → ∀ x : Int, most x (l.drop i) = R →
    Ev (fun k => slices_Max_int64_int64.l0 k l x i) R := by
  intro d
  induction d with
  | zero =>
    intro i hi x hx
    refine Ev.succ ?_
    simp only [slices_Max_int64_int64.l0, if_neg (show ¬ (i : Int) < (l.length : Int) by omega)]
    rw [List.drop_eq_nil_of_le (by omega)] at hx
    exact Ev.done (by rw [← hx]; rfl)
  | succ d ih =>
    intro i hi x hx
    have hnext := ih (i + 1) (by omega)
    have b1 : (i : Int) < (l.length : Int) := by omega
    have b2 : (0 : Int) ≤ (i : Int) := by omega
    have f3 : wrap64 ((i : Int) + 1) = (i : Int) + 1 := w64 (by omega) (by omega)
    refine Ev.succ ?_
    simp only [slices_Max_int64_int64.l0, if_pos b1, if_pos b2, f3]
    refine hnext _ ?_
    rw [List.drop_eq_getElem_cons (by omega : i < l.length)] at hx
    rw [← hx, rd, Int.toNat_natCast, List.getD_eq_getElem?_getD, List.getElem?_eq_getElem (show i < l.length by omega)]
    rfl

theorem st_d (b : Int → Int) : ∀ n, ∃ t, (st b n).d = 0 :: t
  | 0 => ⟨[], rfl⟩
  | n + 1 => by
    obtain ⟨t, ht⟩ := st_d b n
    unfold st Th.step
    split
    · split
      · exact ⟨t ++ [0], by simp [ht]⟩
      · exact ⟨_, by rw [ht]; rfl⟩
    · split
      · exact ⟨_, by rw [ht]; rfl⟩
      · exact ⟨_, by rw [ht]; rfl⟩

theorem sDepth_ev (a : ByteArray) (hn : a.size ≤ 1048576) : Ev (fun k => spec_DepthOf.f k a) (if okw a = true then (most 0 (st (bt a) a.size).d, 0) else (0, 1)) := by
  unfold spec_DepthOf.f
  refine Ev.bind (specOk_ev a hn) ?_
  by_cases h : okw a = true
  · simp only [h, if_true]
    have B := basic (bt a) a.size
    exact Ev.bind (depths_ev a hn) (sDepth_loop _ (by have := B.ld; omega) _ _ 0 (Nat.zero_add _) 0 rfl)
  · simp only [h, if_false]
    exact Ev.now _

theorem iDepth_ev (a : ByteArray) (hn : a.size ≤ 1048576) : Ev (fun k => impl_DepthOf.f k a) (if okw a = true then (most 0 (st (bt a) a.size).d, 0) else (0, 1)) := by
  unfold impl_DepthOf.f
  refine Ev.bind (valid_ev a hn) ?_
  by_cases h : okw a = true
  · simp only [h, if_true]
    have B := basic (bt a) a.size
    refine Ev.bind (match_ev a hn) (Ev.bind (a := most 0 (st (bt a) a.size).d) ?_ (Ev.now _))
    simp only
    have ld := B.ld
    obtain ⟨t, ht⟩ := st_d (bt a) a.size
    generalize (st (bt a) a.size).d = D at *
    have b1 : ¬ (D.length : Int) < 1 := by omega
    have b2 : 0 < (D.length : Int) := by omega
    simp only [slices_Max_int64_int64.f, if_neg b1, if_pos b2]
    refine max_loop D (by omega) _ (D.length - 1) 1 (by omega) (rd D 0) ?_
    rw [ht]
    simp [most, rd, mx]
  · simp only [h, if_false]
    exact Ev.now _

end Go.Proofs.Ytdiahgdjeacolaa.Br
