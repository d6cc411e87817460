/- What the law FnDepths leans on: plain facts, and what the printed functions that it reaches come to; for all arguments that the facts name. -/
import Derived.Test.YtpbckaimchoplaaPx16
import Derived.Test.YtpbckaimchoplaaPx34
import Derived.Test.YtpbckaimchoplaaPx35
import Derived.Test.YtpbckaimchoplaaPx52
import Derived.Test.YtpbckaimchoplaaPx53
import Derived.Test.YtpbckaimchoplaaPx55
import Derived.Test.YtpbckaimchoplaaPx65
import Derived.Test.YtpbckaimchoplaaPx66
import Derived.Test.YtpbckaimchoplaaPx67
import Derived.Test.YtpbckaimchoplaaPx80
import Derived.Test.YtpbckaimchoplaaPx81
import Derived.Test.YtpbckaimchoplaaPx82
import Derived.Test.YtpbckaimchoplaaPx83
import Derived.Test.YtpbckaimchoplaaPx84
import Derived.Test.YtpbckaimchoplaaPx85
import Derived.Test.YtpbckaimchoplaaPx87
import Derived.Test.YtpbckaimchoplaaPx108
import Derived.Test.YtpbckaimchoplaaPx117
namespace Go.Proofs.Ytpbckaimchoplaa.Th

def isC (b : Int) : Bool := b == 40 || b == 91
def isR (b : Int) : Bool := b == 41 || b == 93

structure St where
  p : List Int
  r : List Int
  c : List Int
  d : List Int
  q : List Int

def top (c : List Int) : Int := c.getLast?.getD (-1)

def step (s : St) (i b : Int) : St :=
  if isR b = true then
    if s.c = [] then ⟨s.p ++ [-2], s.r ++ [i], [], s.d ++ [0], s.q ++ [-1]⟩
    else ⟨s.p.set (top s.c).toNat i ++ [top s.c], s.r, s.c.dropLast, s.d ++ [(s.c.dropLast.length : Int)], s.q ++ [top s.c.dropLast]⟩
  else if isC b = true then ⟨s.p ++ [-2], s.r, s.c ++ [i], s.d ++ [(s.c.length : Int) + 1], s.q ++ [top s.c]⟩
  else ⟨s.p ++ [-1], s.r, s.c, s.d ++ [(s.c.length : Int)], s.q ++ [top s.c]⟩

def st (b : Int → Int) : Nat → St
  | 0 => ⟨[], [], [], [0], []⟩
  | n + 1 => step (st b n) n (b n)

theorem isR_notC {b : Int} (h : isR b = true) : isC b = false := by
  unfold isR at h; unfold isC
  simp at h ⊢
  omega

structure Basic (s : St) (n : Nat) : Prop where
  lp : s.p.length = n
  lq : s.q.length = n
  ld : s.d.length = n + 1
  lr : s.r.length ≤ n
  lc : s.c.length ≤ n
  hc : ∀ x ∈ s.c, 0 ≤ x ∧ x < n
  hr : ∀ x ∈ s.r, 0 ≤ x ∧ x < n

theorem top_mem {c : List Int} (h : c ≠ []) : top c ∈ c := by
  unfold top
  rw [List.getLast?_eq_some_getLast h]
  exact List.getLast_mem h

theorem basic (b : Int → Int) : ∀ n, Basic (st b n) n
  | 0 => by constructor <;> simp [st]
  | n + 1 => by
    have ih := basic b n
    obtain ⟨h1, h2, h3, h4, h5, h6, h7⟩ := ih
    unfold st step
    split
    · split
      · constructor <;> simp_all
        · intro x hx; rcases hx with hx | hx
          · have := h7 x hx; omega
          · omega
      · rename_i hne
        have hd : ∀ x ∈ (st b n).c.dropLast, x ∈ (st b n).c := fun x hx => List.dropLast_subset _ hx
        constructor
        · simp; exact h1
        · simp; exact h2
        · simp; exact h3
        · simp; omega
        · simp; omega
        · intro x hx; have := h6 x (hd x hx); constructor <;> omega
        · intro x hx; have := h7 x hx; constructor <;> omega
    · split
      · constructor
        · simp; exact h1
        · simp; exact h2
        · simp; exact h3
        · simp; omega
        · simp; omega
        · intro x hx
          rcases List.mem_append.1 hx with hx | hx
          · have := h6 x hx; constructor <;> omega
          · simp at hx; omega
        · intro x hx; have := h7 x hx; constructor <;> omega
      · constructor
        · simp; exact h1
        · simp; exact h2
        · simp; exact h3
        · simp; omega
        · simp; omega
        · intro x hx; have := h6 x hx; constructor <;> omega
        · intro x hx; have := h7 x hx; constructor <;> omega


def g (l : List Int) (j : Nat) : Int := l.getD j 0

end Go.Proofs.Ytpbckaimchoplaa.Th
namespace Go.Proofs.Ytpbckaimchoplaa.Br
open Go.RowKit Go.Proofs.Ytpbckaimchoplaa.P Go.Proofs.YtpbckaimchoplaaW.PrintWords Go.Proofs.YtpbckaimchoplaaW.PrintLast Go.Proofs.YtpbckaimchoplaaW.PrintMore Go.Proofs.Ytpbckaimchoplaa.Th
set_option linter.unusedVariables false
set_option linter.unusedSimpArgs false
theorem Ev.succ {α : Type} {g : Nat → Option α} {r : α} (h : Ev (fun k => g (k + 1)) r) : Ev g r := by
  obtain ⟨K, hK⟩ := h
  refine ⟨K + 1, fun k hk => ?_⟩
  obtain ⟨m, rfl⟩ : ∃ m, k = m + 1 := ⟨k - 1, by omega⟩
  exact hK m (by omega)
theorem Ev.done {α : Type} {r s : α} (h : r = s) : Ev (fun _ : Nat => some r) s := h ▸ Ev.now r
theorem w64 {x : Int} (h0 : -9223372036854775808 ≤ x) (h1 : x ≤ 9223372036854775807) : wrap64 x = x := by unfold wrap64; omega

/-- The number of a symbol, -1 if it is none. -/
def sym (b : Int) : Int := if b = 40 then 0 else if b = 91 then 1 else if b = 41 then 2 else if b = 93 then 3 else if b = 97 then 4 else if b = 98 then 5 else -1

def allFrom (f : Nat → Bool) : Nat → Nat → Bool
  | 0, _ => true
  | d + 1, i => f i && allFrom f d (i + 1)

/-- Is a text a word. -/
def okw (a : ByteArray) : Bool := allFrom (fun j => decide (0 ≤ sym (bt a j))) a.size 0 && decide ((a.size : Int) ≤ 60)

theorem index_eq {b : Int} (h0 : 0 ≤ b) (h1 : b ≤ 255) : strings_IndexByte.f (⟨#[40, 91, 41, 93, 97, 98]⟩ : ByteArray) b = some (sym b) := by
  obtain ⟨n, rfl⟩ := Int.eq_ofNat_of_zero_le h0
  have hn : n < 256 := by omega
  clear h0 h1
  unfold strings_IndexByte.f
  congr 1
  have key : ∀ n : Fin 256, Lib.indexByte (⟨#[40, 91, 41, 93, 97, 98]⟩ : ByteArray).data.toList ((n.val : Int).toNat.toUInt8) = sym (n.val : Int) := by decide +kernel
  exact key ⟨n, hn⟩

theorem valid_loop (a : ByteArray) (hn : a.size ≤ 1048576) : ∀ d i : Nat, i + d = a.size →
    Ev (fun k => impl_ValidWord.l0 k a a.size i) (allFrom (fun j => decide (0 ≤ sym (bt a j))) d i && decide ((a.size : Int) ≤ 60)) := by
  intro d
  induction d with
  | zero =>
    intro i hi
    refine Ev.succ ?_
    simp only [impl_ValidWord.l0, if_neg (show ¬ (i : Int) < (a.size : Int) by omega), allFrom, Bool.true_and]
    exact Ev.done rfl
  | succ d ih =>
    intro i hi
    refine Ev.succ ?_
    have hb := bt_range a i
    simp only [impl_ValidWord.l0, if_pos (show (i : Int) < (a.size : Int) by omega), if_pos (show (0 : Int) ≤ (i : Int) by omega), allFrom, index_eq hb.1 hb.2, Option.bind_some]
    rw [w64 (by omega) (by omega)]
    by_cases h : sym (bt a i) < 0
    · simp only [if_pos h]
      exact Ev.done (by simp; omega)
    · simp only [if_neg h]
      have := ih (i + 1) (by omega)
      simpa [show 0 ≤ sym (bt a i) by omega] using this

theorem valid_ev (a : ByteArray) (hn : a.size ≤ 1048576) : Ev (fun k => impl_ValidWord.f k a) (okw a) := valid_loop a hn a.size 0 (by omega)

end Go.Proofs.Ytpbckaimchoplaa.Br
namespace Go.Proofs.Ytpbckaimchoplaa.Br
open Go.RowKit Go.Proofs.Ytpbckaimchoplaa.P Go.Proofs.YtpbckaimchoplaaW.PrintWords Go.Proofs.YtpbckaimchoplaaW.PrintLast Go.Proofs.YtpbckaimchoplaaW.PrintMore Go.Proofs.Ytpbckaimchoplaa.Th
set_option linter.unusedVariables false
set_option linter.unusedSimpArgs false
theorem allFrom_iff {f : Nat → Bool} : ∀ {d i : Nat}, allFrom f d i = true ↔ ∀ j, i ≤ j → j < i + d → f j = true
  | 0, i => by simp [allFrom]; omega
  | d + 1, i => by
    unfold allFrom
    rw [Bool.and_eq_true, allFrom_iff]
    constructor
    · rintro ⟨h1, h2⟩ j hj hj2
      by_cases h : j = i
      · subst h; exact h1
      · exact h2 j (by omega) (by omega)
    · intro h
      exact ⟨h i (by omega) (by omega), fun j h1 h2 => h j (by omega) (by omega)⟩

theorem okw_iff {a : ByteArray} : okw a = true ↔ (∀ j : Nat, j < a.size → 0 ≤ sym (bt a j)) ∧ a.size ≤ 60 := by
  unfold okw
  rw [Bool.and_eq_true, allFrom_iff]
  simp
  intro _
  omega

theorem bt_lt {a : ByteArray} {j : Nat} (h : j < a.size) : bt a j = (a[j].toNat : Int) := by
  unfold bt; simp [h]
theorem bt_ge {a : ByteArray} {j : Nat} (h : a.size ≤ j) : bt a j = 0 := by
  unfold bt; simp; omega

end Go.Proofs.Ytpbckaimchoplaa.Br
namespace Go.Proofs.Ytpbckaimchoplaa.Br
open Go.RowKit Go.Proofs.Ytpbckaimchoplaa.P Go.Proofs.YtpbckaimchoplaaW.PrintWords Go.Proofs.YtpbckaimchoplaaW.PrintLast Go.Proofs.YtpbckaimchoplaaW.PrintMore Go.Proofs.Ytpbckaimchoplaa.Th
set_option linter.unusedVariables false
set_option linter.unusedSimpArgs false
theorem isReturn_eq (b : Int) : impl_isReturn.f b = some (isR b) := by
  unfold impl_isReturn.f isR
  by_cases h : b = 41 <;> simp [h]
theorem isCall_eq (b : Int) : impl_isCall.f b = some (isC b) := by
  unfold impl_isCall.f isC
  by_cases h : b = 40 <;> simp [h]
theorem sReturn_eq (b : Int) : spec_l01Return.f b = some (isR b) := by
  unfold spec_l01Return.f isR
  by_cases h : b = 41 <;> simp [h]
theorem sCall_eq (b : Int) : spec_l01Call.f b = some (isC b) := by
  unfold spec_l01Call.f isC
  by_cases h : b = 40 <;> simp [h]

theorem rd_last {c : List Int} (h : c ≠ []) : rd c ((c.length : Int) - 1) = top c := by
  unfold rd top
  have : 0 < c.length := List.length_pos_iff.2 h
  rw [List.getLast?_eq_getElem?, List.getD_eq_getElem?_getD, show ((c.length : Int) - 1).toNat = c.length - 1 by omega, List.getElem?_eq_getElem (by omega)]
  rfl

theorem top_nil {c : List Int} (h : c = []) : top c = -1 := by subst h; rfl
theorem take_last {c : List Int} : c.take ((c.length : Int) - 1).toNat = c.dropLast := by
  rw [List.dropLast_eq_take, show ((c.length : Int) - 1).toNat = c.length - 1 by omega]

/-- From the head of j2 on: the parent is told, a call is put on the stack, the rows grow. -/
theorem match_j2 (a : ByteArray) (hn : a.size ≤ 1048576) (i : Nat) (hi : i < a.size) (x6 : Int) (p r c d q : List Int) (R : List Int × List Int × List Int × List Int × List Int)
    (lp : p.length ≤ i) (lr : r.length ≤ i + 1) (lc : c.length ≤ i) (ld : d.length ≤ i + 1) (lq : q.length ≤ i)
    (h : if isC (bt a i) = true then Ev (fun k => impl_match.l0 k a a.size (i + 1 : Nat) (p ++ [-2]) r (c ++ [(i : Int)]) (d ++ [(c.length : Int) + 1]) (q ++ [top c])) R
         else Ev (fun k => impl_match.l0 k a a.size (i + 1 : Nat) (p ++ [x6]) r c (d ++ [(c.length : Int)]) (q ++ [top c])) R) :
    Ev (fun k => impl_match.j2 k a i i x6 a.size i p r c d q) R := by
  have j3 : Ev (fun k => impl_match.j3 k a i i x6 (top c) a.size i p r c d q) R := by
    refine Ev.succ ?_
    simp only [impl_match.j3, if_pos (show (0 : Int) ≤ (i : Int) by omega), if_pos (show (i : Int) < (a.size : Int) by omega), isCall_eq, Option.bind_some]
    have j4 : ∀ (x : Int) (c2 : List Int), c2.length ≤ i + 1 → Ev (fun k => impl_match.l0 k a a.size (i + 1 : Nat) (p ++ [x]) r c2 (d ++ [(c2.length : Int)]) (q ++ [top c])) R → Ev (fun k => impl_match.j4 k a x (top c) a.size i p r c2 d q) R := by
      intro x c2 l2 h2
      refine Ev.succ ?_
      simp only [impl_match.j4, Option.bind_some, impl_size_int64.f, List.length_cons, List.length_nil]
      rw [w64 (by omega) (by omega)]
      simp only [if_pos (show p.length + (0 + 1) < 17592186044416 by omega), if_pos (show q.length + (0 + 1) < 17592186044416 by omega), if_pos (show d.length + (0 + 1) < 17592186044416 by omega)]
      exact h2
    by_cases hC : isC (bt a i) = true
    · simp only [hC, if_true, List.length_cons, List.length_nil, if_pos (show c.length + (0 + 1) < 17592186044416 by omega)] at h ⊢
      refine j4 (-2) (c ++ [(i : Int)]) (by simp; omega) ?_
      simpa using h
    · simp only [if_neg hC] at h ⊢
      exact j4 x6 c (by omega) h
  refine Ev.succ ?_
  simp only [impl_match.j2]
  by_cases hc : c = []
  · simp only [if_neg (show ¬ (c.length : Int) > 0 by simp [hc])]
    rw [top_nil hc] at j3
    exact j3
  · have : 0 < c.length := List.length_pos_iff.2 hc
    rw [w64 (by omega) (by omega)]
    simp only [if_pos (show (c.length : Int) > 0 by omega), if_pos (show 0 ≤ (c.length : Int) - 1 by omega), if_pos (show (c.length : Int) - 1 < (c.length : Int) by omega), rd_last hc]
    exact j3

theorem match_loop (a : ByteArray) (hn : a.size ≤ 1048576) : ∀ d i : Nat, i + d = a.size →
    Ev (fun k => impl_match.l0 k a a.size i (st (bt a) i).p (st (bt a) i).r (st (bt a) i).c (st (bt a) i).d (st (bt a) i).q)
      ((st (bt a) a.size).p, (st (bt a) a.size).r, (st (bt a) a.size).c, (st (bt a) a.size).d, (st (bt a) a.size).q) := by
  intro d
  induction d with
  | zero =>
    intro i hi
    obtain rfl : i = a.size := by omega
    refine Ev.succ ?_
    simp only [impl_match.l0, if_neg (show ¬ (a.size : Int) < (a.size : Int) by omega)]
    exact Ev.now _
  | succ d ih =>
    intro i hi
    have B := basic (bt a) i
    have hnext := ih (i + 1) (by omega)
    have hst : st (bt a) (i + 1) = Th.step (st (bt a) i) i (bt a i) := rfl
    rw [hst] at hnext
    obtain ⟨lp, lq, ld, lr, lc, hc, hr⟩ := B
    generalize st (bt a) i = s at *
    refine Ev.succ ?_
    simp only [impl_match.l0, if_pos (show (i : Int) < (a.size : Int) by omega), if_pos (show (0 : Int) ≤ (i : Int) by omega), isReturn_eq, Option.bind_some]
    by_cases hR : isR (bt a i) = true
    · have hC := isR_notC hR
      simp only [hR, if_true]
      refine Ev.succ ?_
      simp only [impl_match.j1]
      by_cases he : s.c = []
      · simp only [he, List.length_nil, Int.ofNat_zero, Int.natCast_zero, BEq.rfl, if_true, Option.bind_some, List.length_cons]
        simp only [if_pos (show s.r.length + (0 + 1) < 17592186044416 by omega)]
        refine match_j2 a hn i (by omega) (-2) _ _ _ _ _ _ (by omega) (by simp; omega) (by simp) (by omega) (by omega) ?_
        rw [if_neg (by simp [hC])]
        simp only [Th.step, hR, if_true, he] at hnext
        exact hnext
      · have hl : 0 < s.c.length := List.length_pos_iff.2 he
        have ht := hc _ (top_mem he)
        have hz : ((s.c.length : Int) == 0) = false := by simp; omega
        simp only [hz, Bool.false_eq_true, if_false]
        rw [w64 (by omega) (by omega)]
        simp only [if_pos (show (0 : Int) ≤ (i : Int) by omega), if_pos (show (i : Int) < (a.size : Int) by omega), isReturn_eq, Option.bind_some, hR, if_true,
          if_pos (show 0 ≤ (s.c.length : Int) - 1 by omega), if_pos (show (s.c.length : Int) - 1 < (s.c.length : Int) by omega), rd_last he, if_pos ht.1, if_pos (show top s.c < (s.p.length : Int) by omega), if_pos (show (s.c.length : Int) - 1 ≤ (s.c.length : Int) by omega), take_last]
        refine match_j2 a hn i (by omega) _ _ _ _ _ _ _ (by simp; omega) (by omega) (by simp; omega) (by omega) (by omega) ?_
        rw [if_neg (by simp [hC])]
        simp only [Th.step, hR, if_true, if_neg he] at hnext
        exact hnext
    · have hR' : isR (bt a i) = false := by simpa using hR
      simp only [hR', Bool.false_eq_true, if_false]
      refine Ev.succ ?_
      simp only [impl_match.j1, Bool.false_eq_true, if_false, if_pos (show (0 : Int) ≤ (i : Int) by omega), if_pos (show (i : Int) < (a.size : Int) by omega), isReturn_eq, Option.bind_some, hR']
      refine match_j2 a hn i (by omega) (-1) _ _ _ _ _ _ (by omega) (by omega) (by omega) (by omega) (by omega) ?_
      by_cases hC : isC (bt a i) = true
      · rw [if_pos hC]
        simp only [Th.step, hR', Bool.false_eq_true, if_false, hC, if_true] at hnext
        exact hnext
      · rw [if_neg hC]
        simp only [Th.step, hR', Bool.false_eq_true, if_false, hC] at hnext
        exact hnext

theorem match_ev (a : ByteArray) (hn : a.size ≤ 1048576) : Ev (fun k => impl_match.f k a)
    ((st (bt a) a.size).p, (st (bt a) a.size).r, (st (bt a) a.size).c, (st (bt a) a.size).d, (st (bt a) a.size).q) := match_loop a hn a.size 0 (by omega)

end Go.Proofs.Ytpbckaimchoplaa.Br
namespace Go.Proofs.Ytpbckaimchoplaa.Br
open Go.RowKit Go.Proofs.Ytpbckaimchoplaa.P Go.Proofs.YtpbckaimchoplaaW.PrintWords Go.Proofs.YtpbckaimchoplaaW.PrintLast Go.Proofs.YtpbckaimchoplaaW.PrintMore Go.Proofs.Ytpbckaimchoplaa.Th
set_option linter.unusedVariables false
set_option linter.unusedSimpArgs false
theorem sn_size (l : List Int) : (strOfNums l).size = l.length := by
  simp [strOfNums, ByteArray.size]
theorem sn_bt {l : List Int} (h : ∀ x ∈ l, 0 ≤ x ∧ x ≤ 255) (j : Nat) : bt (strOfNums l) j = g l j := by
  by_cases hj : j < l.length
  · rw [bt_lt (by rw [sn_size]; exact hj)]
    have := h (l[j]) (List.getElem_mem _)
    simp [strOfNums, ByteArray.getElem_eq_getElem_data, g, List.getD_eq_getElem?_getD, hj]
    omega
  · rw [bt_ge (by rw [sn_size]; omega)]
    simp [g, List.getD_eq_getElem?_getD, hj]


/-- The bytes at places. -/
def at_ (a : ByteArray) (l : List Int) : List Int := l.map fun x => bt a x

/-- The greatest of some numbers and a first one. -/
def most (x : Int) (l : List Int) : Int := l.foldl mx x

theorem max_loop (l : List Int) (hl : l.length ≤ 2097152) (R : Int) : ∀ d i : Nat, i + d = l.length → ∀ x : Int, most x (l.drop i) = R →
    Ev (fun k => slices_Max_Lint64_int64.l0 k l x i) R := by
  intro d
  induction d with
  | zero =>
    intro i hi x hx
    refine Ev.succ ?_
    simp only [slices_Max_Lint64_int64.l0, if_neg (show ¬ (i : Int) < (l.length : Int) by omega)]
    rw [List.drop_eq_nil_of_le (by omega)] at hx
    exact Ev.done (by rw [← hx]; rfl)
  | succ d ih =>
    intro i hi x hx
    have hnext := ih (i + 1) (by omega)
    have b1 : (i : Int) < (l.length : Int) := by omega
    have b2 : (0 : Int) ≤ (i : Int) := by omega
    have f3 : wrap64 ((i : Int) + 1) = (i : Int) + 1 := w64 (by omega) (by omega)
    refine Ev.succ ?_
    simp only [slices_Max_Lint64_int64.l0, if_pos b1, if_pos b2, f3]
    refine hnext _ ?_
    rw [List.drop_eq_getElem_cons (by omega : i < l.length)] at hx
    rw [← hx, rd, Int.toNat_natCast, List.getD_eq_getElem?_getD, List.getElem?_eq_getElem (show i < l.length by omega)]
    rfl

theorem st_d (b : Int → Int) : ∀ n, ∃ t, (st b n).d = 0 :: t
  | 0 => ⟨[], rfl⟩
  | n + 1 => by
    obtain ⟨t, ht⟩ := st_d b n
    unfold st Th.step
    split
    · split
      · exact ⟨t ++ [0], by simp [ht]⟩
      · exact ⟨_, by rw [ht]; rfl⟩
    · split
      · exact ⟨_, by rw [ht]; rfl⟩
      · exact ⟨_, by rw [ht]; rfl⟩

theorem iDepth_ev (a : ByteArray) (hn : a.size ≤ 1048576) : Ev (fun k => impl_DepthOf.f k a) (if okw a = true then (most 0 (st (bt a) a.size).d, 0) else (0, 1)) := by
  unfold impl_DepthOf.f
  refine Ev.bind (valid_ev a hn) ?_
  by_cases h : okw a = true
  · simp only [h, if_true]
    have B := basic (bt a) a.size
    refine Ev.bind (match_ev a hn) (Ev.bind (a := most 0 (st (bt a) a.size).d) ?_ (Ev.now _))
    simp only
    have ld := B.ld
    obtain ⟨t, ht⟩ := st_d (bt a) a.size
    generalize (st (bt a) a.size).d = D at *
    have b1 : ¬ (D.length : Int) < 1 := by omega
    have b2 : 0 < (D.length : Int) := by omega
    simp only [slices_Max_Lint64_int64.f, if_neg b1, if_pos b2]
    refine max_loop D (by omega) _ (D.length - 1) 1 (by omega) (rd D 0) ?_
    rw [ht]
    simp [most, rd, mx]
  · simp only [h, if_false]
    exact Ev.now _

end Go.Proofs.Ytpbckaimchoplaa.Br
namespace Go.Proofs.Ytpbckaimchoplaa.Br
open Go.RowKit Go.Proofs.Ytpbckaimchoplaa.P Go.Proofs.YtpbckaimchoplaaW.PrintWords Go.Proofs.YtpbckaimchoplaaW.PrintLast Go.Proofs.YtpbckaimchoplaaW.PrintMore Go.Proofs.Ytpbckaimchoplaa.Th
set_option linter.unusedVariables false
set_option linter.unusedSimpArgs false
theorem u64_wrap (n : Int) : IntKind.u64.wrap n = n % 18446744073709551616 := by simp [IntKind.wrap, IntKind.bits, IntKind.signed]
theorem u64_range (n : Int) : 0 ≤ IntKind.u64.wrap n ∧ IntKind.u64.wrap n < 18446744073709551616 := by rw [u64_wrap]; omega
theorem and255 {x : Int} (h0 : 0 ≤ x) (h1 : x < 18446744073709551616) : Go.bits .and .u64 x 255 = x % 256 :=
  bits_mask .u64 64 (by decide) (fun n a b => by rw [u64_wrap]; omega) 8 (by decide) x h0 h1
theorem pick_bits (n : Int) : 0 ≤ wrap64 (Go.bits .and .u64 (IntKind.u64.wrap n / 1099511627776) 255) ∧ wrap64 (Go.bits .and .u64 (IntKind.u64.wrap n / 1099511627776) 255) ≤ 255 := by
  have h := u64_range n
  generalize IntKind.u64.wrap n = m at *
  have h2 : 0 ≤ m / 1099511627776 ∧ m / 1099511627776 < 18446744073709551616 := by omega
  rw [and255 h2.1 h2.2]
  unfold wrap64
  omega

/-- The bytes of a source. -/
def Bytes (s : List Int) : Prop := ∀ x ∈ s, 0 ≤ x ∧ x ≤ 255
theorem bytes_of_wf {s : List Int} (h : ∀ x ∈ s, (Lit.int .u8 x).wf = true) : Bytes s := by
  intro x hx
  have := h x hx
  simp [Lit.wf, IntKind.min, IntKind.max, IntKind.bits, IntKind.signed] at this
  omega
theorem bytes_rd {s : List Int} (h : Bytes s) (i : Int) : 0 ≤ rd s i ∧ rd s i ≤ 255 := by
  unfold rd
  rw [List.getD_eq_getElem?_getD]
  by_cases hi : i.toNat < s.length
  · rw [List.getElem?_eq_getElem hi]; exact h _ (List.getElem_mem _)
  · rw [List.getElem?_eq_none (by omega)]; simp

theorem next_ok {s : List Int} (hs : Bytes s) (at_ sd : Int) (h0 : 0 ≤ at_) (h1 : at_ ≤ 1099511627776) : ∃ v sd', spec_l00Src_next.f s at_ sd = some (v, at_ + 1, sd') ∧ 0 ≤ v ∧ v ≤ 255 := by
  have hb := bytes_rd hs at_
  have f1 : wrap64 (at_ + 1) = at_ + 1 := w64 (by omega) (by omega)
  have f2 : wrap64 (rd s at_) = rd s at_ := w64 (by omega) (by omega)
  unfold spec_l00Src_next.f
  rw [f1]
  split
  · first | rw [if_pos h0] | skip
    split
    · exact ⟨_, _, rfl, by rw [f2]; exact hb.1, by rw [f2]; exact hb.2⟩
    · exact ⟨_, _, rfl, (pick_bits _).1, (pick_bits _).2⟩
  · split
    · exact ⟨_, _, rfl, by omega, by omega⟩
    · exact ⟨_, _, rfl, (pick_bits _).1, (pick_bits _).2⟩

/-- A number below n, at most 200. -/
theorem pick_ok {s : List Int} (hs : Bytes s) (at_ sd n : Int) (h0 : 0 ≤ at_) (h1 : at_ ≤ 1099511627776) (hn : 1 ≤ n) (hn2 : n ≤ 200) :
    ∃ v at2 sd', spec_l00Src_pick.f s at_ sd n = some (v, at2, sd') ∧ 0 ≤ v ∧ v < n ∧ at_ ≤ at2 ∧ at2 ≤ at_ + 1 := by
  unfold spec_l00Src_pick.f
  by_cases h : n ≤ 1
  · rw [if_pos h]; exact ⟨0, at_, sd, rfl, by omega, by omega, by omega, by omega⟩
  · obtain ⟨v, sd', e, v0, v1⟩ := next_ok hs at_ sd h0 h1
    rw [if_neg h, e]
    simp only [Option.bind_some]
    rw [if_neg (by omega), if_neg (by omega)]
    refine ⟨_, _, _, rfl, ?_, ?_, by omega, by omega⟩
    · rw [Int.tmod_eq_emod_of_nonneg v0]; exact Int.emod_nonneg _ (by omega)
    · rw [Int.tmod_eq_emod_of_nonneg v0]; exact Int.emod_lt_of_pos _ (by omega)

theorem one_ok {s : List Int} (hs : Bytes s) (at_ sd n : Int) (h0 : 0 ≤ at_) (h1 : at_ ≤ 1099511627776) (hn : 1 ≤ n) (hn2 : n ≤ 200) :
    ∃ v at2 sd', spec_l00Src_one.f s at_ sd n = some (v, at2, sd') ∧ at_ ≤ at2 ∧ at2 ≤ at_ + 1 := by
  obtain ⟨v, at2, sd', e, _, _, a, b⟩ := pick_ok hs at_ sd n h0 h1 hn hn2
  unfold spec_l00Src_one.f
  rw [e]
  exact ⟨_, _, _, rfl, a, b⟩
theorem among_ok {s : List Int} (hs : Bytes s) (at_ sd : Int) (l : List Int) (h0 : 0 ≤ at_) (h1 : at_ ≤ 1099511627776) (hn : 1 ≤ l.length) (hn2 : l.length ≤ 200) :
    ∃ v at2 sd', spec_l00Src_among.f s at_ sd l = some (v, at2, sd') ∧ v ∈ l ∧ at_ ≤ at2 ∧ at2 ≤ at_ + 1 := by
  obtain ⟨v, at2, sd', e, v0, v1, a, b⟩ := pick_ok hs at_ sd l.length h0 h1 (by omega) (by omega)
  unfold spec_l00Src_among.f
  rw [e]
  simp only [Option.bind_some, if_pos v0, if_pos v1]
  refine ⟨_, _, _, rfl, ?_, a, b⟩
  obtain ⟨j, rfl⟩ := Int.eq_ofNat_of_zero_le v0
  unfold rd
  rw [Int.toNat_natCast, List.getD_eq_getElem?_getD, List.getElem?_eq_getElem (by omega)]
  exact List.getElem_mem _

/-- Symbols, as numbers. -/
def Syms (l : List Int) : Prop := ∀ x ∈ l, x = 40 ∨ x = 91 ∨ x = 41 ∨ x = 93 ∨ x = 97 ∨ x = 98
theorem syms_snoc {l : List Int} {x : Int} (h : Syms l) (hx : x = 40 ∨ x = 91 ∨ x = 41 ∨ x = 93 ∨ x = 97 ∨ x = 98) : Syms (l ++ [x]) := by
  intro y hy
  rcases List.mem_append.1 hy with hy | hy
  · exact h y hy
  · simp at hy; subst hy; exact hx
theorem okw_syms {l : List Int} (h : Syms l) (hl : l.length ≤ 60) : okw (strOfNums l) = true := by
  rw [okw_iff, sn_size]
  refine ⟨fun j hj => ?_, hl⟩
  rw [sn_bt (fun x hx => by rcases h x hx with r | r | r | r | r | r <;> omega)]
  have : g l j ∈ l := by unfold g; rw [List.getD_eq_getElem?_getD, List.getElem?_eq_getElem hj]; exact List.getElem_mem _
  unfold sym
  rcases h _ this with r | r | r | r | r | r <;> rw [r] <;> decide

/-- A drawn word: at most m symbols. -/
def Drawn (m : Nat) (r : ByteArray × Int × Int) : Prop := ∃ l : List Int, r.1 = strOfNums l ∧ Syms l ∧ l.length ≤ m

theorem drawn_l1 {s : List Int} (hs : Bytes s) (m : Nat) (hm : m ≤ 60) : ∀ d : Nat, ∀ (x5 : List Int) (x6 : Int) (x7 : Bool) (at_ sd : Int), x5.length + d = m → Syms x5 → 0 ≤ at_ → at_ + 2 * d ≤ 1000000 → -1000 ≤ x6 → x6 ≤ 1000 →
    ∃ r, Ev (fun k => spec_l01Drawn.l1 k m x5 x6 x7 s at_ sd) r ∧ Drawn m r := by
  intro d
  induction d with
  | zero =>
    intro x5 x6 x7 at_ sd hl hy h0 h1 _ _
    refine ⟨(strOfNums x5, at_, sd), Ev.succ ?_, x5, rfl, hy, by omega⟩
    have b1 : ¬ (x5.length : Int) < (m : Int) := by omega
    simp only [spec_l01Drawn.l1, if_neg b1]
    split
    · split <;> exact Ev.now _
    · exact Ev.now _
  | succ d ih =>
    intro x5 x6 x7 at_ sd hl hy h0 h1 h2 h3
    have b1 : (x5.length : Int) < (m : Int) := by omega
    by_cases c7 : x7 = true
    · by_cases c6 : x6 > 0
      · obtain ⟨v, at2, sd2, e, a1, a2⟩ := one_ok hs at_ sd 8 h0 (by omega) (by omega) (by omega)
        by_cases cv : v = true
        · refine ⟨(strOfNums x5, at2, sd2), Ev.succ ?_, x5, rfl, hy, by omega⟩
          simp only [spec_l01Drawn.l1, if_pos c7, if_pos c6, if_pos b1, e, Option.bind_some, if_pos cv]
          exact Ev.now _
        · obtain ⟨v2, at3, sd3, e2, v0, v1, a3, a4⟩ := pick_ok hs at2 sd2 2 (by omega) (by omega) (by omega) (by omega)
          have hx : bt (⟨#[41, 93]⟩ : ByteArray) v2 = 41 ∨ bt (⟨#[41, 93]⟩ : ByteArray) v2 = 93 := by
            have : v2 = 0 ∨ v2 = 1 := by omega
            rcases this with rfl | rfl
            · left; decide
            · right; decide
          have b4 : x5.length < 140737488355328 := by omega
          obtain ⟨r, er, dr⟩ := ih (x5 ++ [bt (⟨#[41, 93]⟩ : ByteArray) v2]) (x6 - 1) x7 at3 sd3 (by simp; omega) (syms_snoc hy (by omega)) (by omega) (by omega) (by omega) (by omega)
          have f1 : wrap64 (x6 - 1) = x6 - 1 := w64 (by omega) (by omega)
          refine ⟨r, Ev.succ ?_, dr⟩
          simp only [spec_l01Drawn.l1, if_pos c7, if_pos c6, if_pos b1, e, Option.bind_some, if_neg cv, e2, if_pos v0, if_pos v1, if_pos b4, f1]
          exact er
      · refine ⟨(strOfNums x5, at_, sd), Ev.succ ?_, x5, rfl, hy, by omega⟩
        simp only [spec_l01Drawn.l1, if_pos c7, if_neg c6]
        exact Ev.now _
    · refine ⟨(strOfNums x5, at_, sd), Ev.succ ?_, x5, rfl, hy, by omega⟩
      simp only [spec_l01Drawn.l1, if_neg c7]
      exact Ev.now _

theorem drawn_l0 {s : List Int} (hs : Bytes s) (m : Nat) (hm : m ≤ 60) : ∀ d : Nat, ∀ (x5 : List Int) (x6 : Int) (x7 : Bool) (at_ sd : Int), x5.length + d ≤ m → Syms x5 → 0 ≤ at_ → at_ + d ≤ 10000 → -200 + d ≤ x6 → x6 + d ≤ 200 →
    ∃ r, Ev (fun k => spec_l01Drawn.l0 k m x5 x6 x7 d s at_ sd) r ∧ Drawn m r := by
  intro d
  induction d with
  | zero =>
    intro x5 x6 x7 at_ sd hl hy h0 h1 h2 h3
    obtain ⟨r, er, dr⟩ := drawn_l1 hs m hm (m - x5.length) x5 x6 x7 at_ sd (by omega) hy h0 (by omega) (by omega) (by omega)
    refine ⟨r, Ev.succ ?_, dr⟩
    simp only [spec_l01Drawn.l0, if_neg (show ¬ ((0 : Nat) : Int) > 0 by decide)]
    exact er
  | succ d ih =>
    intro x5 x6 x7 at_ sd hl hy h0 h1 h2 h3
    obtain ⟨v, at2, sd2, e, hv, a1, a2⟩ := among_ok hs at_ sd [0, 1, 2, 2, 3, 4, 5] h0 (by omega) (by decide) (by decide)
    have hv' : 0 ≤ v ∧ v < 6 := by simp at hv; omega
    have hx : bt (⟨#[40, 91, 41, 93, 97, 98]⟩ : ByteArray) v = 40 ∨ bt (⟨#[40, 91, 41, 93, 97, 98]⟩ : ByteArray) v = 91 ∨ bt (⟨#[40, 91, 41, 93, 97, 98]⟩ : ByteArray) v = 41 ∨ bt (⟨#[40, 91, 41, 93, 97, 98]⟩ : ByteArray) v = 93 ∨ bt (⟨#[40, 91, 41, 93, 97, 98]⟩ : ByteArray) v = 97 ∨ bt (⟨#[40, 91, 41, 93, 97, 98]⟩ : ByteArray) v = 98 := by
      have : v = 0 ∨ v = 1 ∨ v = 2 ∨ v = 3 ∨ v = 4 ∨ v = 5 := by omega
      rcases this with rfl | rfl | rfl | rfl | rfl | rfl
      · left; decide
      · right; left; decide
      · right; right; left; decide
      · right; right; right; left; decide
      · right; right; right; right; left; decide
      · right; right; right; right; right; decide
    generalize hb : bt (⟨#[40, 91, 41, 93, 97, 98]⟩ : ByteArray) v = b at *
    have b4 : x5.length < 140737488355328 := by omega
    have step2 : ∀ c : Int, (c = 40 ∨ c = 91 ∨ c = 41 ∨ c = 93 ∨ c = 97 ∨ c = 98) → ∃ r, Ev (fun k => spec_l01Drawn.j2 k m x5 x6 x7 ((d + 1 : Nat) : Int) c s at2 sd2) r ∧ Drawn m r := by
      intro c hc
      have go : ∀ y : Int, -200 + d ≤ y → y + d ≤ 200 → ∃ r, Ev (fun k => spec_l01Drawn.l0 k m (x5 ++ [c]) y x7 d s at2 sd2) r ∧ Drawn m r :=
        fun y p q => ih (x5 ++ [c]) y x7 at2 sd2 (by simp; omega) (syms_snoc hy hc) (by omega) (by omega) p q
      obtain ⟨r1, e1, d1⟩ := go x6 (by omega) (by omega)
      obtain ⟨r2, e2, d2⟩ := go (x6 + 1) (by omega) (by omega)
      obtain ⟨r3, e3, d3⟩ := go (x6 - 1) (by omega) (by omega)
      have f1 : wrap64 (x6 + 1) = x6 + 1 := w64 (by omega) (by omega)
      have f2 : wrap64 (x6 - 1) = x6 - 1 := w64 (by omega) (by omega)
      have f3 : wrap64 (((d + 1 : Nat) : Int) - 1) = (d : Int) := by rw [w64 (by omega) (by omega)]; push_cast; omega
      have f4 : wrap64 (x6 + 1 - 1) = x6 := by rw [w64 (by omega) (by omega)]; omega
      have key : ∃ r, Ev (fun k => spec_l01Drawn.j2 (k + 1) m x5 x6 x7 ((d + 1 : Nat) : Int) c s at2 sd2) r ∧ Drawn m r := by
        simp only [spec_l01Drawn.j2, sCall_eq, sReturn_eq, Option.bind_some, if_pos b4, f1, f2, f3, f4]
        split
        · split
          · split
            · exact ⟨r1, e1, d1⟩
            · exact ⟨r2, e2, d2⟩
          · exact ⟨r2, e2, d2⟩
        · split
          · split
            · exact ⟨r3, e3, d3⟩
            · exact ⟨r1, e1, d1⟩
          · exact ⟨r1, e1, d1⟩
      obtain ⟨r, er, dr⟩ := key
      exact ⟨r, Ev.succ er, dr⟩
    have step1 : ∀ z : Bool, ∃ r, Ev (fun k => spec_l01Drawn.j1 k m x5 x6 x7 ((d + 1 : Nat) : Int) b z s at2 sd2) r ∧ Drawn m r := by
      intro z
      cases z with
      | true =>
        obtain ⟨r, er, dr⟩ := step2 40 (Or.inl rfl)
        exact ⟨r, Ev.succ (by simp only [spec_l01Drawn.j1, if_true]; exact er), dr⟩
      | false =>
        obtain ⟨r, er, dr⟩ := step2 b hx
        exact ⟨r, Ev.succ (by simp only [spec_l01Drawn.j1, Bool.false_eq_true, if_false]; exact er), dr⟩
    have key : ∃ r, Ev (fun k => spec_l01Drawn.l0 (k + 1) m x5 x6 x7 ((d + 1 : Nat) : Int) s at_ sd) r ∧ Drawn m r := by
      have b5 : ((d + 1 : Nat) : Int) > 0 := by omega
      simp only [spec_l01Drawn.l0, if_pos b5, e, Option.bind_some, if_pos hv'.1, if_pos hv'.2, sReturn_eq, hb]
      split
      · split
        · exact step1 _
        · exact step1 _
      · exact step1 _
    obtain ⟨r, er, dr⟩ := key
    exact ⟨r, Ev.succ er, dr⟩

/-- A drawn word is a word of at most m symbols. -/
theorem a2word (l : List Int) (hs : Bytes l) (m : Nat) (hm : m ≤ 60) : ∃ w, Ev (fun k => spec_A2Word.f k l m) w ∧ okw w = true ∧ w.size ≤ m := by
  obtain ⟨v, at2, sd2, e, a1, a2⟩ := one_ok hs 0 0 3 (by omega) (by omega) (by omega) (by omega)
  obtain ⟨v2, at3, sd3, e2, v0, v1, a3, a4⟩ := pick_ok hs at2 sd2 ((m : Int) + 1) (by omega) (by omega) (by omega) (by omega)
  obtain ⟨j, rfl⟩ := Int.eq_ofNat_of_zero_le v0
  obtain ⟨r, er, lst, q1, q2, q3⟩ := drawn_l0 hs m hm j [] 0 (!v) at3 sd3 (by simp; omega) (fun x hx => by simp at hx) (by omega) (by omega) (by omega) (by omega)
  have f1 : wrap64 ((m : Int) + 1) = (m : Int) + 1 := w64 (by omega) (by omega)
  refine ⟨r.1, ?_, by rw [q1]; exact okw_syms q2 (by omega), by rw [q1, sn_size]; exact q3⟩
  unfold spec_A2Word.f spec_l00From.f
  simp only [Option.bind_some]
  refine Ev.bind (a := r) ?_ (Ev.now _)
  unfold spec_l01Drawn.f
  simp only [e, Option.bind_some, f1, e2]
  exact er

end Go.Proofs.Ytpbckaimchoplaa.Br
namespace Go.Proofs.Ytpbckaimchoplaa.Br
open Go.RowKit Go.Proofs.Ytpbckaimchoplaa.P Go.Proofs.YtpbckaimchoplaaW.PrintWords Go.Proofs.YtpbckaimchoplaaW.PrintLast Go.Proofs.YtpbckaimchoplaaW.PrintMore Go.Proofs.Ytpbckaimchoplaa.Th
set_option linter.unusedVariables false
set_option linter.unusedSimpArgs false
theorem iDepths_ev (a : ByteArray) (hn : a.size ≤ 1048576) : Ev (fun k => impl_DepthsOf.f k a) (if okw a = true then ((st (bt a) a.size).d, 0) else ([], 1)) := by
  unfold impl_DepthsOf.f
  refine Ev.bind (valid_ev a hn) ?_
  by_cases h : okw a = true
  · simp only [h, if_true]
    exact Ev.bind (match_ev a hn) (Ev.now _)
  · simp only [h, if_false]
    exact Ev.now _

end Go.Proofs.Ytpbckaimchoplaa.Br
