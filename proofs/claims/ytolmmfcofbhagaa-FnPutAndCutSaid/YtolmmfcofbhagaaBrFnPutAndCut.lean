/- What the law FnPutAndCut leans on: plain facts, and what the printed functions that it reaches come to; for all arguments that the facts name. -/
import Derived.Test.YtolmmfcofbhagaaPp0
import Derived.Test.YtolmmfcofbhagaaPp9
import Derived.Test.YtolmmfcofbhagaaPp14
import Derived.Test.YtolmmfcofbhagaaPp16
import Derived.Test.YtolmmfcofbhagaaPp17
import Derived.Test.YtolmmfcofbhagaaPp38
import Derived.Test.YtolmmfcofbhagaaPp39
import Derived.Test.YtolmmfcofbhagaaPp40
import Derived.Test.YtolmmfcofbhagaaPp41
import Derived.Test.YtolmmfcofbhagaaPp43
import Derived.Test.YtolmmfcofbhagaaPp45
import Derived.Test.YtolmmfcofbhagaaPp114
import Derived.Test.YtolmmfcofbhagaaPp116
import Derived.Test.YtolmmfcofbhagaaPp117
import Derived.Test.YtolmmfcofbhagaaPp118
import Derived.Test.YtolmmfcofbhagaaPp122
namespace Go.Proofs.Ytolmmfcofbhagaa.Th

def isC (b : Int) : Bool := b == 40 || b == 91
def isR (b : Int) : Bool := b == 41 || b == 93

structure St where
  p : List Int
  r : List Int
  c : List Int
  d : List Int
  q : List Int

def top (c : List Int) : Int := c.getLast?.getD (-1)

def step (s : St) (i b : Int) : St :=
  if isR b = true then
    if s.c = [] then ⟨s.p ++ [-2], s.r ++ [i], [], s.d ++ [0], s.q ++ [-1]⟩
    else ⟨s.p.set (top s.c).toNat i ++ [top s.c], s.r, s.c.dropLast, s.d ++ [(s.c.dropLast.length : Int)], s.q ++ [top s.c.dropLast]⟩
  else if isC b = true then ⟨s.p ++ [-2], s.r, s.c ++ [i], s.d ++ [(s.c.length : Int) + 1], s.q ++ [top s.c]⟩
  else ⟨s.p ++ [-1], s.r, s.c, s.d ++ [(s.c.length : Int)], s.q ++ [top s.c]⟩

def st (b : Int → Int) : Nat → St
  | 0 => ⟨[], [], [], [0], []⟩
  | n + 1 => step (st b n) n (b n)

theorem isR_notC {b : Int} (h : isR b = true) : isC b = false := by
  unfold isR at h; unfold isC
  simp at h ⊢
  omega

structure Basic (s : St) (n : Nat) : Prop where
  lp : s.p.length = n
  lq : s.q.length = n
  ld : s.d.length = n + 1
  lr : s.r.length ≤ n
  lc : s.c.length ≤ n
  hc : ∀ x ∈ s.c, 0 ≤ x ∧ x < n
  hr : ∀ x ∈ s.r, 0 ≤ x ∧ x < n

theorem top_mem {c : List Int} (h : c ≠ []) : top c ∈ c := by
  unfold top
  rw [List.getLast?_eq_some_getLast h]
  exact List.getLast_mem h

theorem basic (b : Int → Int) : ∀ n, Basic (st b n) n
  | 0 => by constructor <;> simp [st]
  | n + 1 => by
    have ih := basic b n
    obtain ⟨h1, h2, h3, h4, h5, h6, h7⟩ := ih
    unfold st step
    split
    · split
      · constructor <;> simp_all
        · intro x hx; rcases hx with hx | hx
          · have := h7 x hx; omega
          · omega
      · rename_i hne
        have hd : ∀ x ∈ (st b n).c.dropLast, x ∈ (st b n).c := fun x hx => List.dropLast_subset _ hx
        constructor
        · simp; exact h1
        · simp; exact h2
        · simp; exact h3
        · simp; omega
        · simp; omega
        · intro x hx; have := h6 x (hd x hx); constructor <;> omega
        · intro x hx; have := h7 x hx; constructor <;> omega
    · split
      · constructor
        · simp; exact h1
        · simp; exact h2
        · simp; exact h3
        · simp; omega
        · simp; omega
        · intro x hx
          rcases List.mem_append.1 hx with hx | hx
          · have := h6 x hx; constructor <;> omega
          · simp at hx; omega
        · intro x hx; have := h7 x hx; constructor <;> omega
      · constructor
        · simp; exact h1
        · simp; exact h2
        · simp; exact h3
        · simp; omega
        · simp; omega
        · intro x hx; have := h6 x hx; constructor <;> omega
        · intro x hx; have := h7 x hx; constructor <;> omega


def g (l : List Int) (j : Nat) : Int := l.getD j 0

theorem g_append_left {l m : List Int} {j : Nat} (h : j < l.length) : g (l ++ m) j = g l j := by
  unfold g; simp [List.getD_eq_getElem?_getD, List.getElem?_append_left h]
theorem g_append_end {l : List Int} {x : Int} {j : Nat} (h : j = l.length) : g (l ++ [x]) j = x := by
  subst h; unfold g; simp [List.getD_eq_getElem?_getD]
theorem g_set {l : List Int} {t j : Nat} {x : Int} : g (l.set t x) j = if t = j ∧ j < l.length then x else g l j := by
  unfold g
  simp only [List.getD_eq_getElem?_getD, List.getElem?_set]
  by_cases h : t = j
  · subst h
    by_cases h2 : t < l.length
    · simp [h2]
    · simp [h2]
  · simp [h]

structure Inv (b : Int → Int) (s : St) (n : Nat) : Prop where
  ba : Basic s n
  inc : (s.r ++ s.c).Pairwise (· < ·)
  m2 : ∀ j : Nat, j < n → (g s.p j = -2 ↔ (j : Int) ∈ s.r ∨ (j : Int) ∈ s.c)
  br : ∀ j : Nat, (j : Int) ∈ s.r → isR (b j) = true
  bc : ∀ j : Nat, (j : Int) ∈ s.c → isC (b j) = true
  m1 : ∀ j : Nat, j < n → (g s.p j = -1 ↔ isC (b j) = false ∧ isR (b j) = false)
  pos : ∀ j : Nat, j < n → 0 ≤ g s.p j → g s.p j < n ∧ g s.p (g s.p j).toNat = j ∧ ((isC (b j) = true ∧ (j : Int) < g s.p j) ∨ (isR (b j) = true ∧ g s.p j < j))
  lo : ∀ j : Nat, j < n → -2 ≤ g s.p j

theorem pw_mem {l : List Int} {x : Int} (h : (l ++ [x]).Pairwise (· < ·)) : ∀ y ∈ l, y < x := by
  intro y hy
  exact (List.pairwise_append.1 h).2.2 y hy x (by simp)

theorem dropLast_top {c : List Int} (h : c ≠ []) : c.dropLast ++ [top c] = c := by
  unfold top
  rw [List.getLast?_eq_some_getLast h]
  exact List.dropLast_concat_getLast h

theorem inv (b : Int → Int) : ∀ n, Inv b (st b n) n
  | 0 => by
    constructor <;> first | exact basic b 0 | simp [st]
  | n + 1 => by
    have ih := inv b n
    have hba := basic b (n + 1)
    have hst : st b (n + 1) = step (st b n) n (b n) := rfl
    obtain ⟨B, inc, m2, br, bc, m1, pos, lo⟩ := ih
    obtain ⟨lp, lq, ld, lr, lc, hc, hr⟩ := B
    generalize hs : st b n = s at *
    rw [hst] at hba ⊢
    by_cases hR : isR (b n) = true
    · have hC := isR_notC hR
      by_cases he : s.c = []
      · have e : step s n (b n) = ⟨s.p ++ [-2], s.r ++ [(n : Int)], [], s.d ++ [0], s.q ++ [-1]⟩ := by simp [step, hR, he]
        rw [e] at hba ⊢
        rw [he, List.append_nil] at inc
        have gl : ∀ j : Nat, j < n → g (s.p ++ [-2]) j = g s.p j := fun j hj => g_append_left (by omega)
        have gn : g (s.p ++ [-2]) n = -2 := g_append_end lp.symm
        refine ⟨hba, ?_, ?_, ?_, ?_, ?_, ?_, ?_⟩
        · simp only [List.append_nil]
          refine List.pairwise_append.2 ⟨inc, by simp, ?_⟩
          intro a ha x hx; simp at hx; subst hx; exact (hr a ha).2
        · intro j hj
          by_cases hjn : j = n
          · subst hjn; simp [gn]
          · have hj' : j < n := by omega
            rw [gl j hj', m2 j hj', he]
            simp; omega
        · intro j hj
          rcases List.mem_append.1 hj with h | h
          · exact br j h
          · simp at h; rw [show j = n by omega]; exact hR
        · intro j hj; simp at hj
        · intro j hj
          by_cases hjn : j = n
          · subst hjn; simp [gn, hR]
          · have hj' : j < n := by omega
            rw [gl j hj']; exact m1 j hj'
        · intro j hj h0
          by_cases hjn : j = n
          · subst hjn; rw [gn] at h0; omega
          · have hj' : j < n := by omega
            rw [gl j hj'] at h0 ⊢
            obtain ⟨p1, p2, p3⟩ := pos j hj' h0
            refine ⟨by omega, ?_, p3⟩
            rw [gl _ (by omega)]; exact p2
        · intro j hj
          by_cases hjn : j = n
          · subst hjn; rw [gn]; omega
          · have hj' : j < n := by omega
            rw [gl j hj']; exact lo j hj'
      · have e : step s n (b n) = ⟨s.p.set (top s.c).toNat n ++ [top s.c], s.r, s.c.dropLast, s.d ++ [(s.c.dropLast.length : Int)], s.q ++ [top s.c.dropLast]⟩ := by simp [step, hR, he]
        rw [e] at hba ⊢
        have ht := top_mem he
        obtain ⟨t0, t1⟩ := hc _ ht
        obtain ⟨t, htt⟩ := Int.eq_ofNat_of_zero_le t0
        have hdt := dropLast_top he
        have htn : t < n := by omega
        have ht2 : g s.p t = -2 := (m2 t htn).2 (Or.inr (htt ▸ ht))
        have htC : isC (b t) = true := bc t (htt ▸ ht)
        rw [htt] at hdt ⊢
        simp only [Int.toNat_natCast]
        have inc' : (s.r ++ s.c.dropLast ++ [(t : Int)]).Pairwise (· < ·) := by rw [List.append_assoc, hdt]; exact inc
        have hlt := pw_mem inc'
        have gn : g (s.p.set t n ++ [(t : Int)]) n = t := g_append_end (by simp [lp])
        have gl : ∀ j : Nat, j < n → g (s.p.set t n ++ [(t : Int)]) j = if t = j then (n : Int) else g s.p j := by
          intro j hj
          rw [g_append_left (by simp; omega), g_set]
          by_cases h : t = j
          · simp [h]; omega
          · simp [h]
        have hcm : ∀ j : Nat, (j : Int) ∈ s.c ↔ (j : Int) ∈ s.c.dropLast ∨ j = t := by
          intro j
          conv => lhs; rw [← hdt]
          rw [List.mem_append, List.mem_singleton, Int.ofNat_inj]
        refine ⟨by rw [htt] at hba; simpa using hba, ?_, ?_, ?_, ?_, ?_, ?_, ?_⟩
        · exact (List.pairwise_append.1 inc').1
        · intro j hj
          by_cases hjn : j = n
          · subst hjn
            rw [gn]
            constructor
            · intro h; omega
            · intro h
              rcases h with h | h
              · have := hr _ h; omega
              · have := hc _ ((hcm j).2 (Or.inl h)); omega
          · have hj' : j < n := by omega
            rw [gl j hj']
            by_cases hjt : t = j
            · subst hjt
              simp only [if_true]
              constructor
              · intro h; omega
              · intro h
                rcases h with h | h
                · have := hlt t (by simp [h]); omega
                · have := hlt t (by simp [h]); omega
            · rw [if_neg hjt, m2 j hj', hcm j]
              constructor
              · rintro (h | h | h)
                · exact Or.inl h
                · exact Or.inr h
                · omega
              · rintro (h | h)
                · exact Or.inl h
                · exact Or.inr (Or.inl h)
        · exact br
        · intro j hj; exact bc j ((hcm j).2 (Or.inl hj))
        · intro j hj
          by_cases hjn : j = n
          · subst hjn; rw [gn]; simp [hR]
          · have hj' : j < n := by omega
            rw [gl j hj']
            by_cases hjt : t = j
            · subst hjt; simp [htC]
            · rw [if_neg hjt]; exact m1 j hj'
        · intro j hj h0
          by_cases hjn : j = n
          · subst hjn
            rw [gn]
            refine ⟨by omega, ?_, Or.inr ⟨hR, by omega⟩⟩
            rw [Int.toNat_natCast, gl t htn, if_pos rfl]
          · have hj' : j < n := by omega
            rw [gl j hj'] at h0 ⊢
            by_cases hjt : t = j
            · subst hjt
              simp only [if_true]
              refine ⟨by omega, ?_, Or.inl ⟨htC, by omega⟩⟩
              rw [Int.toNat_natCast, gn]
            · rw [if_neg hjt] at h0 ⊢
              obtain ⟨p1, p2, p3⟩ := pos j hj' h0
              refine ⟨by omega, ?_, p3⟩
              rw [gl _ (by omega), if_neg]
              · exact p2
              · intro h; rw [← h, ht2] at p2; omega
        · intro j hj
          by_cases hjn : j = n
          · subst hjn; rw [gn]; omega
          · have hj' : j < n := by omega
            rw [gl j hj']
            split
            · omega
            · exact lo j hj'
    · have hR' : isR (b n) = false := by simpa using hR
      by_cases hC : isC (b n) = true
      · have e : step s n (b n) = ⟨s.p ++ [-2], s.r, s.c ++ [(n : Int)], s.d ++ [(s.c.length : Int) + 1], s.q ++ [top s.c]⟩ := by simp [step, hR, hC]
        rw [e] at hba ⊢
        have gl : ∀ j : Nat, j < n → g (s.p ++ [-2]) j = g s.p j := fun j hj => g_append_left (by omega)
        have gn : g (s.p ++ [-2]) n = -2 := g_append_end lp.symm
        refine ⟨hba, ?_, ?_, ?_, ?_, ?_, ?_, ?_⟩
        · rw [← List.append_assoc]
          refine List.pairwise_append.2 ⟨inc, by simp, ?_⟩
          intro a ha x hx; simp at hx; subst hx
          rcases List.mem_append.1 ha with h | h
          · exact (hr a h).2
          · exact (hc a h).2
        · intro j hj
          by_cases hjn : j = n
          · subst hjn; simp [gn]
          · have hj' : j < n := by omega
            rw [gl j hj', m2 j hj', List.mem_append, List.mem_singleton, Int.ofNat_inj]
            constructor
            · rintro (h | h)
              · exact Or.inl h
              · exact Or.inr (Or.inl h)
            · rintro (h | h | h)
              · exact Or.inl h
              · exact Or.inr h
              · omega
        · exact br
        · intro j hj
          rcases List.mem_append.1 hj with h | h
          · exact bc j h
          · simp at h; rw [show j = n by omega]; exact hC
        · intro j hj
          by_cases hjn : j = n
          · subst hjn; simp [gn, hC]
          · have hj' : j < n := by omega
            rw [gl j hj']; exact m1 j hj'
        · intro j hj h0
          by_cases hjn : j = n
          · subst hjn; rw [gn] at h0; omega
          · have hj' : j < n := by omega
            rw [gl j hj'] at h0 ⊢
            obtain ⟨p1, p2, p3⟩ := pos j hj' h0
            refine ⟨by omega, ?_, p3⟩
            rw [gl _ (by omega)]; exact p2
        · intro j hj
          by_cases hjn : j = n
          · subst hjn; rw [gn]; omega
          · have hj' : j < n := by omega
            rw [gl j hj']; exact lo j hj'
      · have hC' : isC (b n) = false := by simpa using hC
        have e : step s n (b n) = ⟨s.p ++ [-1], s.r, s.c, s.d ++ [(s.c.length : Int)], s.q ++ [top s.c]⟩ := by simp [step, hR, hC]
        rw [e] at hba ⊢
        have gl : ∀ j : Nat, j < n → g (s.p ++ [-1]) j = g s.p j := fun j hj => g_append_left (by omega)
        have gn : g (s.p ++ [-1]) n = -1 := g_append_end lp.symm
        refine ⟨hba, inc, ?_, br, bc, ?_, ?_, ?_⟩
        · intro j hj
          by_cases hjn : j = n
          · subst hjn; rw [gn]
            constructor
            · intro h; omega
            · rintro (h | h)
              · have := hr _ h; omega
              · have := hc _ h; omega
          · have hj' : j < n := by omega
            rw [gl j hj', m2 j hj']
        · intro j hj
          by_cases hjn : j = n
          · subst hjn; simp [gn, hC', hR']
          · have hj' : j < n := by omega
            rw [gl j hj']; exact m1 j hj'
        · intro j hj h0
          by_cases hjn : j = n
          · subst hjn; rw [gn] at h0; omega
          · have hj' : j < n := by omega
            rw [gl j hj'] at h0 ⊢
            obtain ⟨p1, p2, p3⟩ := pos j hj' h0
            refine ⟨by omega, ?_, p3⟩
            rw [gl _ (by omega)]; exact p2
        · intro j hj
          by_cases hjn : j = n
          · subst hjn; rw [gn]; omega
          · have hj' : j < n := by omega
            rw [gl j hj']; exact lo j hj'

end Go.Proofs.Ytolmmfcofbhagaa.Th
namespace Go.Proofs.Ytolmmfcofbhagaa.Br
open Go.RowKit Go.Proofs.Ytolmmfcofbhagaa.PC Go.Proofs.YtolmmfcofbhagaaW.PrintWords Go.Proofs.YtolmmfcofbhagaaW.PrintLast Go.Proofs.YtolmmfcofbhagaaW.PrintMore Go.Proofs.Ytolmmfcofbhagaa.Th
set_option linter.unusedVariables false
set_option linter.unusedSimpArgs false
theorem Ev.succ {α : Type} {g : Nat → Option α} {r : α} (h : Ev (fun k => g (k + 1)) r) : Ev g r := by
  obtain ⟨K, hK⟩ := h
  refine ⟨K + 1, fun k hk => ?_⟩
  obtain ⟨m, rfl⟩ : ∃ m, k = m + 1 := ⟨k - 1, by omega⟩
  exact hK m (by omega)
theorem Ev.done {α : Type} {r s : α} (h : r = s) : Ev (fun _ : Nat => some r) s := h ▸ Ev.now r
theorem w64 {x : Int} (h0 : -9223372036854775808 ≤ x) (h1 : x ≤ 9223372036854775807) : wrap64 x = x := by unfold wrap64; omega

/-- The number of a symbol, -1 if it is none. -/
def sym (b : Int) : Int := if b = 40 then 0 else if b = 91 then 1 else if b = 41 then 2 else if b = 93 then 3 else if b = 97 then 4 else if b = 98 then 5 else -1

def allFrom (f : Nat → Bool) : Nat → Nat → Bool
  | 0, _ => true
  | d + 1, i => f i && allFrom f d (i + 1)

/-- Is a text a word. -/
def okw (a : ByteArray) : Bool := allFrom (fun j => decide (0 ≤ sym (bt a j))) a.size 0 && decide ((a.size : Int) ≤ 60)

theorem index_eq {b : Int} (h0 : 0 ≤ b) (h1 : b ≤ 255) : strings_IndexByte.f (⟨#[40, 91, 41, 93, 97, 98]⟩ : ByteArray) b = some (sym b) := by
  obtain ⟨n, rfl⟩ := Int.eq_ofNat_of_zero_le h0
  have hn : n < 256 := by omega
  clear h0 h1
  unfold strings_IndexByte.f
  congr 1
  have key : ∀ n : Fin 256, Lib.indexByte (⟨#[40, 91, 41, 93, 97, 98]⟩ : ByteArray).data.toList ((n.val : Int).toNat.toUInt8) = sym (n.val : Int) := by decide +kernel
  exact key ⟨n, hn⟩

theorem valid_loop (a : ByteArray) (hn : a.size ≤ 1048576) : ∀ d i : Nat, i + d = a.size →
    Ev (fun k => impl_ValidWord.l0 k a a.size i) (allFrom (fun j => decide (0 ≤ sym (bt a j))) d i && decide ((a.size : Int) ≤ 60)) := by
  intro d
  induction d with
  | zero =>
    intro i hi
    refine Ev.succ ?_
    simp only [impl_ValidWord.l0, if_neg (show ¬ (i : Int) < (a.size : Int) by omega), allFrom, Bool.true_and]
    exact Ev.done rfl
  | succ d ih =>
    intro i hi
    refine Ev.succ ?_
    have hb := bt_range a i
    simp only [impl_ValidWord.l0, if_pos (show (i : Int) < (a.size : Int) by omega), if_pos (show (0 : Int) ≤ (i : Int) by omega), allFrom, index_eq hb.1 hb.2, Option.bind_some]
    rw [w64 (by omega) (by omega)]
    by_cases h : sym (bt a i) < 0
    · simp only [if_pos h]
      exact Ev.done (by simp; omega)
    · simp only [if_neg h]
      have := ih (i + 1) (by omega)
      simpa [show 0 ≤ sym (bt a i) by omega] using this

theorem valid_ev (a : ByteArray) (hn : a.size ≤ 1048576) : Ev (fun k => impl_ValidWord.f k a) (okw a) := valid_loop a hn a.size 0 (by omega)

end Go.Proofs.Ytolmmfcofbhagaa.Br
namespace Go.Proofs.Ytolmmfcofbhagaa.Br
open Go.RowKit Go.Proofs.Ytolmmfcofbhagaa.PC Go.Proofs.YtolmmfcofbhagaaW.PrintWords Go.Proofs.YtolmmfcofbhagaaW.PrintLast Go.Proofs.YtolmmfcofbhagaaW.PrintMore Go.Proofs.Ytolmmfcofbhagaa.Th
set_option linter.unusedVariables false
set_option linter.unusedSimpArgs false
theorem allFrom_iff {f : Nat → Bool} : ∀ {d i : Nat}, allFrom f d i = true ↔ ∀ j, i ≤ j → j < i + d → f j = true
  | 0, i => by simp [allFrom]; omega
  | d + 1, i => by
    unfold allFrom
    rw [Bool.and_eq_true, allFrom_iff]
    constructor
    · rintro ⟨h1, h2⟩ j hj hj2
      by_cases h : j = i
      · subst h; exact h1
      · exact h2 j (by omega) (by omega)
    · intro h
      exact ⟨h i (by omega) (by omega), fun j h1 h2 => h j (by omega) (by omega)⟩

theorem okw_iff {a : ByteArray} : okw a = true ↔ (∀ j : Nat, j < a.size → 0 ≤ sym (bt a j)) ∧ a.size ≤ 60 := by
  unfold okw
  rw [Bool.and_eq_true, allFrom_iff]
  simp
  intro _
  omega

theorem okw_size {a : ByteArray} (h : okw a = true) : a.size ≤ 60 := (okw_iff.1 h).2
theorem okw_sym {a : ByteArray} (h : okw a = true) {j : Nat} (hj : j < a.size) : 0 ≤ sym (bt a j) := (okw_iff.1 h).1 j hj

theorem bt_lt {a : ByteArray} {j : Nat} (h : j < a.size) : bt a j = (a[j].toNat : Int) := by
  unfold bt; simp [h]
theorem bt_ge {a : ByteArray} {j : Nat} (h : a.size ≤ j) : bt a j = 0 := by
  unfold bt; simp; omega

theorem bt_append (a b : ByteArray) (j : Nat) : bt (a ++ b) j = if j < a.size then bt a j else bt b ((j - a.size : Nat) : Int) := by
  by_cases h : j < a.size
  · rw [if_pos h, bt_lt h, bt_lt (by rw [ByteArray.size_append]; omega), ByteArray.getElem_append_left h]
  · rw [if_neg h]
    by_cases h2 : j < a.size + b.size
    · rw [bt_lt (by rw [ByteArray.size_append]; exact h2), bt_lt (by omega), ByteArray.getElem_append_right (by omega)]
    · rw [bt_ge (by rw [ByteArray.size_append]; omega), bt_ge (by omega)]

theorem bt_extract (a : ByteArray) {i e j : Nat} (he : e ≤ a.size) (hj : j < e - i) : bt (a.extract i e) j = bt a ((i + j : Nat) : Int) := by
  rw [bt_lt (by rw [ByteArray.size_extract]; omega), bt_lt (by omega), ByteArray.getElem_extract]

/-- Two texts with the same bytes. -/
theorem ba_ext {a b : ByteArray} (hs : a.size = b.size) (h : ∀ j : Nat, j < a.size → bt a j = bt b j) : a = b := by
  apply ByteArray.ext
  apply Array.ext
  · exact hs
  · intro i h1 h2
    have h1' : i < a.size := h1
    have h2' : i < b.size := h2
    have e := h i h1
    rw [bt_lt h1', bt_lt h2'] at e
    have : a[i].toNat = b[i].toNat := by exact_mod_cast e
    exact UInt8.toNat_inj.1 this

theorem okw_append {a b : ByteArray} (ha : okw a = true) (hb : okw b = true) : okw (a ++ b) = decide (a.size + b.size ≤ 60) := by
  by_cases h : a.size + b.size ≤ 60
  · rw [decide_eq_true h, okw_iff, ByteArray.size_append]
    refine ⟨fun j hj => ?_, h⟩
    rw [bt_append]
    split
    · exact okw_sym ha ‹_›
    · exact okw_sym hb (by omega)
  · rw [decide_eq_false h]
    by_cases h2 : okw (a ++ b) = true
    · have := okw_size h2; rw [ByteArray.size_append] at this; omega
    · simpa using h2

end Go.Proofs.Ytolmmfcofbhagaa.Br
namespace Go.Proofs.Ytolmmfcofbhagaa.Br
open Go.RowKit Go.Proofs.Ytolmmfcofbhagaa.PC Go.Proofs.YtolmmfcofbhagaaW.PrintWords Go.Proofs.YtolmmfcofbhagaaW.PrintLast Go.Proofs.YtolmmfcofbhagaaW.PrintMore Go.Proofs.Ytolmmfcofbhagaa.Th
set_option linter.unusedVariables false
set_option linter.unusedSimpArgs false
theorem isReturn_eq (b : Int) : impl_isReturn.f b = some (isR b) := by
  unfold impl_isReturn.f isR
  by_cases h : b = 41 <;> simp [h]
theorem isCall_eq (b : Int) : impl_isCall.f b = some (isC b) := by
  unfold impl_isCall.f isC
  by_cases h : b = 40 <;> simp [h]
theorem sReturn_eq (b : Int) : spec_l01Return.f b = some (isR b) := by
  unfold spec_l01Return.f isR
  by_cases h : b = 41 <;> simp [h]
theorem sCall_eq (b : Int) : spec_l01Call.f b = some (isC b) := by
  unfold spec_l01Call.f isC
  by_cases h : b = 40 <;> simp [h]

theorem rd_last {c : List Int} (h : c ≠ []) : rd c ((c.length : Int) - 1) = top c := by
  unfold rd top
  have : 0 < c.length := List.length_pos_iff.2 h
  rw [List.getLast?_eq_getElem?, List.getD_eq_getElem?_getD, show ((c.length : Int) - 1).toNat = c.length - 1 by omega, List.getElem?_eq_getElem (by omega)]
  rfl

theorem top_nil {c : List Int} (h : c = []) : top c = -1 := by subst h; rfl
theorem take_last {c : List Int} : c.take ((c.length : Int) - 1).toNat = c.dropLast := by
  rw [List.dropLast_eq_take, show ((c.length : Int) - 1).toNat = c.length - 1 by omega]

/-- From the head of j2 on: the parent is told, a call is put on the stack, the rows grow. -/
theorem match_j2 (a : ByteArray) (hn : a.size ≤ 1048576) (i : Nat) (hi : i < a.size) (x6 : Int) (p r c d q : List Int) (R : List Int × List Int × List Int × List Int × List Int)
    (lp : p.length ≤ i) (lr : r.length ≤ i + 1) (lc : c.length ≤ i) (ld : d.length ≤ i + 1) (lq : q.length ≤ i)
    (h : if isC (bt a i) = true then Ev (fun k => impl_match.l0 k a a.size (i + 1 : Nat) (p ++ [-2]) r (c ++ [(i : Int)]) (d ++ [(c.length : Int) + 1]) (q ++ [top c])) R
         else Ev (fun k => impl_match.l0 k a a.size (i + 1 : Nat) (p ++ [x6]) r c (d ++ [(c.length : Int)]) (q ++ [top c])) R) :
    Ev (fun k => impl_match.j2 k a i i x6 a.size i p r c d q) R := by
  have j3 : Ev (fun k => impl_match.j3 k a i i x6 (top c) a.size i p r c d q) R := by
    refine Ev.succ ?_
    simp only [impl_match.j3, if_pos (show (0 : Int) ≤ (i : Int) by omega), if_pos (show (i : Int) < (a.size : Int) by omega), isCall_eq, Option.bind_some]
    have j4 : ∀ (x : Int) (c2 : List Int), c2.length ≤ i + 1 → Ev (fun k => impl_match.l0 k a a.size (i + 1 : Nat) (p ++ [x]) r c2 (d ++ [(c2.length : Int)]) (q ++ [top c])) R → Ev (fun k => impl_match.j4 k a x (top c) a.size i p r c2 d q) R := by
      intro x c2 l2 h2
      refine Ev.succ ?_
      simp only [impl_match.j4, Option.bind_some, impl_size_int64.f, List.length_cons, List.length_nil]
      rw [w64 (by omega) (by omega)]
      simp only [if_pos (show p.length + (0 + 1) < 17592186044416 by omega), if_pos (show q.length + (0 + 1) < 17592186044416 by omega), if_pos (show d.length + (0 + 1) < 17592186044416 by omega)]
      exact h2
    by_cases hC : isC (bt a i) = true
    · simp only [hC, if_true, List.length_cons, List.length_nil, if_pos (show c.length + (0 + 1) < 17592186044416 by omega)] at h ⊢
      refine j4 (-2) (c ++ [(i : Int)]) (by simp; omega) ?_
      simpa using h
    · simp only [if_neg hC] at h ⊢
      exact j4 x6 c (by omega) h
  refine Ev.succ ?_
  simp only [impl_match.j2]
  by_cases hc : c = []
  · simp only [if_neg (show ¬ (c.length : Int) > 0 by simp [hc])]
    rw [top_nil hc] at j3
    exact j3
  · have : 0 < c.length := List.length_pos_iff.2 hc
    rw [w64 (by omega) (by omega)]
    simp only [if_pos (show (c.length : Int) > 0 by omega), if_pos (show 0 ≤ (c.length : Int) - 1 by omega), if_pos (show (c.length : Int) - 1 < (c.length : Int) by omega), rd_last hc]
    exact j3

theorem match_loop (a : ByteArray) (hn : a.size ≤ 1048576) : ∀ d i : Nat, i + d = a.size →
    Ev (fun k => impl_match.l0 k a a.size i (st (bt a) i).p (st (bt a) i).r (st (bt a) i).c (st (bt a) i).d (st (bt a) i).q)
      ((st (bt a) a.size).p, (st (bt a) a.size).r, (st (bt a) a.size).c, (st (bt a) a.size).d, (st (bt a) a.size).q) := by
  intro d
  induction d with
  | zero =>
    intro i hi
    obtain rfl : i = a.size := by omega
    refine Ev.succ ?_
    simp only [impl_match.l0, if_neg (show ¬ (a.size : Int) < (a.size : Int) by omega)]
    exact Ev.now _
  | succ d ih =>
    intro i hi
    have B := basic (bt a) i
    have hnext := ih (i + 1) (by omega)
    have hst : st (bt a) (i + 1) = Th.step (st (bt a) i) i (bt a i) := rfl
    rw [hst] at hnext
    obtain ⟨lp, lq, ld, lr, lc, hc, hr⟩ := B
    generalize st (bt a) i = s at *
    refine Ev.succ ?_
    simp only [impl_match.l0, if_pos (show (i : Int) < (a.size : Int) by omega), if_pos (show (0 : Int) ≤ (i : Int) by omega), isReturn_eq, Option.bind_some]
    by_cases hR : isR (bt a i) = true
    · have hC := isR_notC hR
      simp only [hR, if_true]
      refine Ev.succ ?_
      simp only [impl_match.j1]
      by_cases he : s.c = []
      · simp only [he, List.length_nil, Int.ofNat_zero, Int.natCast_zero, BEq.rfl, if_true, Option.bind_some, List.length_cons]
        simp only [if_pos (show s.r.length + (0 + 1) < 17592186044416 by omega)]
        refine match_j2 a hn i (by omega) (-2) _ _ _ _ _ _ (by omega) (by simp; omega) (by simp) (by omega) (by omega) ?_
        rw [if_neg (by simp [hC])]
        simp only [Th.step, hR, if_true, he] at hnext
        exact hnext
      · have hl : 0 < s.c.length := List.length_pos_iff.2 he
        have ht := hc _ (top_mem he)
        have hz : ((s.c.length : Int) == 0) = false := by simp; omega
        simp only [hz, Bool.false_eq_true, if_false]
        rw [w64 (by omega) (by omega)]
        simp only [if_pos (show (0 : Int) ≤ (i : Int) by omega), if_pos (show (i : Int) < (a.size : Int) by omega), isReturn_eq, Option.bind_some, hR, if_true,
          if_pos (show 0 ≤ (s.c.length : Int) - 1 by omega), if_pos (show (s.c.length : Int) - 1 < (s.c.length : Int) by omega), rd_last he, if_pos ht.1, if_pos (show top s.c < (s.p.length : Int) by omega), if_pos (show (s.c.length : Int) - 1 ≤ (s.c.length : Int) by omega), take_last]
        refine match_j2 a hn i (by omega) _ _ _ _ _ _ _ (by simp; omega) (by omega) (by simp; omega) (by omega) (by omega) ?_
        rw [if_neg (by simp [hC])]
        simp only [Th.step, hR, if_true, if_neg he] at hnext
        exact hnext
    · have hR' : isR (bt a i) = false := by simpa using hR
      simp only [hR', Bool.false_eq_true, if_false]
      refine Ev.succ ?_
      simp only [impl_match.j1, Bool.false_eq_true, if_false, if_pos (show (0 : Int) ≤ (i : Int) by omega), if_pos (show (i : Int) < (a.size : Int) by omega), isReturn_eq, Option.bind_some, hR']
      refine match_j2 a hn i (by omega) (-1) _ _ _ _ _ _ (by omega) (by omega) (by omega) (by omega) (by omega) ?_
      by_cases hC : isC (bt a i) = true
      · rw [if_pos hC]
        simp only [Th.step, hR', Bool.false_eq_true, if_false, hC, if_true] at hnext
        exact hnext
      · rw [if_neg hC]
        simp only [Th.step, hR', Bool.false_eq_true, if_false, hC] at hnext
        exact hnext

theorem match_ev (a : ByteArray) (hn : a.size ≤ 1048576) : Ev (fun k => impl_match.f k a)
    ((st (bt a) a.size).p, (st (bt a) a.size).r, (st (bt a) a.size).c, (st (bt a) a.size).d, (st (bt a) a.size).q) := match_loop a hn a.size 0 (by omega)

end Go.Proofs.Ytolmmfcofbhagaa.Br
namespace Go.Proofs.Ytolmmfcofbhagaa.Br
open Go.RowKit Go.Proofs.Ytolmmfcofbhagaa.PC Go.Proofs.YtolmmfcofbhagaaW.PrintWords Go.Proofs.YtolmmfcofbhagaaW.PrintLast Go.Proofs.YtolmmfcofbhagaaW.PrintMore Go.Proofs.Ytolmmfcofbhagaa.Th
set_option linter.unusedVariables false
set_option linter.unusedSimpArgs false
theorem g_rd (l : List Int) (i : Nat) : rd l i = g l i := by unfold rd g; simp

end Go.Proofs.Ytolmmfcofbhagaa.Br
namespace Go.Proofs.Ytolmmfcofbhagaa.Br
open Go.RowKit Go.Proofs.Ytolmmfcofbhagaa.PC Go.Proofs.YtolmmfcofbhagaaW.PrintWords Go.Proofs.YtolmmfcofbhagaaW.PrintLast Go.Proofs.YtolmmfcofbhagaaW.PrintMore Go.Proofs.Ytolmmfcofbhagaa.Th
set_option linter.unusedVariables false
set_option linter.unusedSimpArgs false
theorem sn_size (l : List Int) : (strOfNums l).size = l.length := by
  simp [strOfNums, ByteArray.size]
theorem sn_bt {l : List Int} (h : ∀ x ∈ l, 0 ≤ x ∧ x ≤ 255) (j : Nat) : bt (strOfNums l) j = g l j := by
  by_cases hj : j < l.length
  · rw [bt_lt (by rw [sn_size]; exact hj)]
    have := h (l[j]) (List.getElem_mem _)
    simp [strOfNums, ByteArray.getElem_eq_getElem_data, g, List.getD_eq_getElem?_getD, hj]
    omega
  · rw [bt_ge (by rw [sn_size]; omega)]
    simp [g, List.getD_eq_getElem?_getD, hj]


/-- The bytes at places. -/
def at_ (a : ByteArray) (l : List Int) : List Int := l.map fun x => bt a x

/-- The greatest of some numbers and a first one. -/
def most (x : Int) (l : List Int) : Int := l.foldl mx x

end Go.Proofs.Ytolmmfcofbhagaa.Br
namespace Go.Proofs.Ytolmmfcofbhagaa.Br
open Go.RowKit Go.Proofs.Ytolmmfcofbhagaa.PC Go.Proofs.YtolmmfcofbhagaaW.PrintWords Go.Proofs.YtolmmfcofbhagaaW.PrintLast Go.Proofs.YtolmmfcofbhagaaW.PrintMore Go.Proofs.Ytolmmfcofbhagaa.Th
set_option linter.unusedVariables false
set_option linter.unusedSimpArgs false
theorem u64_wrap (n : Int) : IntKind.u64.wrap n = n % 18446744073709551616 := by simp [IntKind.wrap, IntKind.bits, IntKind.signed]
theorem u64_range (n : Int) : 0 ≤ IntKind.u64.wrap n ∧ IntKind.u64.wrap n < 18446744073709551616 := by rw [u64_wrap]; omega
theorem and255 {x : Int} (h0 : 0 ≤ x) (h1 : x < 18446744073709551616) : Go.bits .and .u64 x 255 = x % 256 :=
  bits_mask .u64 64 (by decide) (fun n a b => by rw [u64_wrap]; omega) 8 (by decide) x h0 h1
theorem pick_bits (n : Int) : 0 ≤ wrap64 (Go.bits .and .u64 (IntKind.u64.wrap n / 1099511627776) 255) ∧ wrap64 (Go.bits .and .u64 (IntKind.u64.wrap n / 1099511627776) 255) ≤ 255 := by
  have h := u64_range n
  generalize IntKind.u64.wrap n = m at *
  have h2 : 0 ≤ m / 1099511627776 ∧ m / 1099511627776 < 18446744073709551616 := by omega
  rw [and255 h2.1 h2.2]
  unfold wrap64
  omega

/-- The bytes of a source. -/
def Bytes (s : List Int) : Prop := ∀ x ∈ s, 0 ≤ x ∧ x ≤ 255
theorem bytes_of_wf {s : List Int} (h : ∀ x ∈ s, (Lit.int .u8 x).wf = true) : Bytes s := by
  intro x hx
  have := h x hx
  simp [Lit.wf, IntKind.min, IntKind.max, IntKind.bits, IntKind.signed] at this
  omega
theorem bytes_rd {s : List Int} (h : Bytes s) (i : Int) : 0 ≤ rd s i ∧ rd s i ≤ 255 := by
  unfold rd
  rw [List.getD_eq_getElem?_getD]
  by_cases hi : i.toNat < s.length
  · rw [List.getElem?_eq_getElem hi]; exact h _ (List.getElem_mem _)
  · rw [List.getElem?_eq_none (by omega)]; simp

theorem next_ok {s : List Int} (hs : Bytes s) (at_ sd : Int) (h0 : 0 ≤ at_) (h1 : at_ ≤ 1099511627776) : ∃ v sd', spec_l00Src_next.f s at_ sd = some (v, at_ + 1, sd') ∧ 0 ≤ v ∧ v ≤ 255 := by
  have hb := bytes_rd hs at_
  have f1 : wrap64 (at_ + 1) = at_ + 1 := w64 (by omega) (by omega)
  have f2 : wrap64 (rd s at_) = rd s at_ := w64 (by omega) (by omega)
  unfold spec_l00Src_next.f
  rw [f1]
  split
  · first | rw [if_pos h0] | skip
    split
    · exact ⟨_, _, rfl, by rw [f2]; exact hb.1, by rw [f2]; exact hb.2⟩
    · exact ⟨_, _, rfl, (pick_bits _).1, (pick_bits _).2⟩
  · split
    · exact ⟨_, _, rfl, by omega, by omega⟩
    · exact ⟨_, _, rfl, (pick_bits _).1, (pick_bits _).2⟩

/-- A number below n, at most 200. -/
theorem pick_ok {s : List Int} (hs : Bytes s) (at_ sd n : Int) (h0 : 0 ≤ at_) (h1 : at_ ≤ 1099511627776) (hn : 1 ≤ n) (hn2 : n ≤ 200) :
    ∃ v at2 sd', spec_l00Src_pick.f s at_ sd n = some (v, at2, sd') ∧ 0 ≤ v ∧ v < n ∧ at_ ≤ at2 ∧ at2 ≤ at_ + 1 := by
  unfold spec_l00Src_pick.f
  by_cases h : n ≤ 1
  · rw [if_pos h]; exact ⟨0, at_, sd, rfl, by omega, by omega, by omega, by omega⟩
  · obtain ⟨v, sd', e, v0, v1⟩ := next_ok hs at_ sd h0 h1
    rw [if_neg h, e]
    simp only [Option.bind_some]
    rw [if_neg (by omega), if_neg (by omega)]
    refine ⟨_, _, _, rfl, ?_, ?_, by omega, by omega⟩
    · rw [Int.tmod_eq_emod_of_nonneg v0]; exact Int.emod_nonneg _ (by omega)
    · rw [Int.tmod_eq_emod_of_nonneg v0]; exact Int.emod_lt_of_pos _ (by omega)

theorem one_ok {s : List Int} (hs : Bytes s) (at_ sd n : Int) (h0 : 0 ≤ at_) (h1 : at_ ≤ 1099511627776) (hn : 1 ≤ n) (hn2 : n ≤ 200) :
    ∃ v at2 sd', spec_l00Src_one.f s at_ sd n = some (v, at2, sd') ∧ at_ ≤ at2 ∧ at2 ≤ at_ + 1 := by
  obtain ⟨v, at2, sd', e, _, _, a, b⟩ := pick_ok hs at_ sd n h0 h1 hn hn2
  unfold spec_l00Src_one.f
  rw [e]
  exact ⟨_, _, _, rfl, a, b⟩
theorem among_ok {s : List Int} (hs : Bytes s) (at_ sd : Int) (l : List Int) (h0 : 0 ≤ at_) (h1 : at_ ≤ 1099511627776) (hn : 1 ≤ l.length) (hn2 : l.length ≤ 200) :
    ∃ v at2 sd', spec_l00Src_among.f s at_ sd l = some (v, at2, sd') ∧ v ∈ l ∧ at_ ≤ at2 ∧ at2 ≤ at_ + 1 := by
  obtain ⟨v, at2, sd', e, v0, v1, a, b⟩ := pick_ok hs at_ sd l.length h0 h1 (by omega) (by omega)
  unfold spec_l00Src_among.f
  rw [e]
  simp only [Option.bind_some, if_pos v0, if_pos v1]
  refine ⟨_, _, _, rfl, ?_, a, b⟩
  obtain ⟨j, rfl⟩ := Int.eq_ofNat_of_zero_le v0
  unfold rd
  rw [Int.toNat_natCast, List.getD_eq_getElem?_getD, List.getElem?_eq_getElem (by omega)]
  exact List.getElem_mem _

/-- Symbols, as numbers. -/
def Syms (l : List Int) : Prop := ∀ x ∈ l, x = 40 ∨ x = 91 ∨ x = 41 ∨ x = 93 ∨ x = 97 ∨ x = 98
theorem syms_snoc {l : List Int} {x : Int} (h : Syms l) (hx : x = 40 ∨ x = 91 ∨ x = 41 ∨ x = 93 ∨ x = 97 ∨ x = 98) : Syms (l ++ [x]) := by
  intro y hy
  rcases List.mem_append.1 hy with hy | hy
  · exact h y hy
  · simp at hy; subst hy; exact hx
theorem okw_syms {l : List Int} (h : Syms l) (hl : l.length ≤ 60) : okw (strOfNums l) = true := by
  rw [okw_iff, sn_size]
  refine ⟨fun j hj => ?_, hl⟩
  rw [sn_bt (fun x hx => by rcases h x hx with r | r | r | r | r | r <;> omega)]
  have : g l j ∈ l := by unfold g; rw [List.getD_eq_getElem?_getD, List.getElem?_eq_getElem hj]; exact List.getElem_mem _
  unfold sym
  rcases h _ this with r | r | r | r | r | r <;> rw [r] <;> decide

/-- A drawn word: at most m symbols. -/
def Drawn (m : Nat) (r : ByteArray × Int × Int) : Prop := ∃ l : List Int, r.1 = strOfNums l ∧ Syms l ∧ l.length ≤ m

theorem drawn_l1 {s : List Int} (hs : Bytes s) (m : Nat) (hm : m ≤ 60) : ∀ d : Nat, ∀ (x5 : List Int) (x6 : Int) (x7 : Bool) (at_ sd : Int), x5.length + d = m → Syms x5 → 0 ≤ at_ → at_ + 2 * d ≤ 1000000 → -1000 ≤ x6 → x6 ≤ 1000 →
    ∃ r, Ev (fun k => spec_l01Drawn.l1 k m x5 x6 x7 s at_ sd) r ∧ Drawn m r := by
  intro d
  induction d with
  | zero =>
    intro x5 x6 x7 at_ sd hl hy h0 h1 _ _
    refine ⟨(strOfNums x5, at_, sd), Ev.succ ?_, x5, rfl, hy, by omega⟩
    have b1 : ¬ (x5.length : Int) < (m : Int) := by omega
    simp only [spec_l01Drawn.l1, if_neg b1]
    split
    · split <;> exact Ev.now _
    · exact Ev.now _
  | succ d ih =>
    intro x5 x6 x7 at_ sd hl hy h0 h1 h2 h3
    have b1 : (x5.length : Int) < (m : Int) := by omega
    by_cases c7 : x7 = true
    · by_cases c6 : x6 > 0
      · obtain ⟨v, at2, sd2, e, a1, a2⟩ := one_ok hs at_ sd 8 h0 (by omega) (by omega) (by omega)
        by_cases cv : v = true
        · refine ⟨(strOfNums x5, at2, sd2), Ev.succ ?_, x5, rfl, hy, by omega⟩
          simp only [spec_l01Drawn.l1, if_pos c7, if_pos c6, if_pos b1, e, Option.bind_some, if_pos cv]
          exact Ev.now _
        · obtain ⟨v2, at3, sd3, e2, v0, v1, a3, a4⟩ := pick_ok hs at2 sd2 2 (by omega) (by omega) (by omega) (by omega)
          have hx : bt (⟨#[41, 93]⟩ : ByteArray) v2 = 41 ∨ bt (⟨#[41, 93]⟩ : ByteArray) v2 = 93 := by
            have : v2 = 0 ∨ v2 = 1 := by omega
            rcases this with rfl | rfl
            · left; decide
            · right; decide
          have b4 : x5.length < 140737488355328 := by omega
          obtain ⟨r, er, dr⟩ := ih (x5 ++ [bt (⟨#[41, 93]⟩ : ByteArray) v2]) (x6 - 1) x7 at3 sd3 (by simp; omega) (syms_snoc hy (by omega)) (by omega) (by omega) (by omega) (by omega)
          have f1 : wrap64 (x6 - 1) = x6 - 1 := w64 (by omega) (by omega)
          refine ⟨r, Ev.succ ?_, dr⟩
          simp only [spec_l01Drawn.l1, if_pos c7, if_pos c6, if_pos b1, e, Option.bind_some, if_neg cv, e2, if_pos v0, if_pos v1, if_pos b4, f1]
          exact er
      · refine ⟨(strOfNums x5, at_, sd), Ev.succ ?_, x5, rfl, hy, by omega⟩
        simp only [spec_l01Drawn.l1, if_pos c7, if_neg c6]
        exact Ev.now _
    · refine ⟨(strOfNums x5, at_, sd), Ev.succ ?_, x5, rfl, hy, by omega⟩
      simp only [spec_l01Drawn.l1, if_neg c7]
      exact Ev.now _

theorem drawn_l0 {s : List Int} (hs : Bytes s) (m : Nat) (hm : m ≤ 60) : ∀ d : Nat, ∀ (x5 : List Int) (x6 : Int) (x7 : Bool) (at_ sd : Int), x5.length + d ≤ m → Syms x5 → 0 ≤ at_ → at_ + d ≤ 10000 → -200 + d ≤ x6 → x6 + d ≤ 200 →
    ∃ r, Ev (fun k => spec_l01Drawn.l0 k m x5 x6 x7 d s at_ sd) r ∧ Drawn m r := by
  intro d
  induction d with
  | zero =>
    intro x5 x6 x7 at_ sd hl hy h0 h1 h2 h3
    obtain ⟨r, er, dr⟩ := drawn_l1 hs m hm (m - x5.length) x5 x6 x7 at_ sd (by omega) hy h0 (by omega) (by omega) (by omega)
    refine ⟨r, Ev.succ ?_, dr⟩
    simp only [spec_l01Drawn.l0, if_neg (show ¬ ((0 : Nat) : Int) > 0 by decide)]
    exact er
  | succ d ih =>
    intro x5 x6 x7 at_ sd hl hy h0 h1 h2 h3
    obtain ⟨v, at2, sd2, e, hv, a1, a2⟩ := among_ok hs at_ sd [0, 1, 2, 2, 3, 4, 5] h0 (by omega) (by decide) (by decide)
    have hv' : 0 ≤ v ∧ v < 6 := by simp at hv; omega
    have hx : bt (⟨#[40, 91, 41, 93, 97, 98]⟩ : ByteArray) v = 40 ∨ bt (⟨#[40, 91, 41, 93, 97, 98]⟩ : ByteArray) v = 91 ∨ bt (⟨#[40, 91, 41, 93, 97, 98]⟩ : ByteArray) v = 41 ∨ bt (⟨#[40, 91, 41, 93, 97, 98]⟩ : ByteArray) v = 93 ∨ bt (⟨#[40, 91, 41, 93, 97, 98]⟩ : ByteArray) v = 97 ∨ bt (⟨#[40, 91, 41, 93, 97, 98]⟩ : ByteArray) v = 98 := by
      have : v = 0 ∨ v = 1 ∨ v = 2 ∨ v = 3 ∨ v = 4 ∨ v = 5 := by omega
      rcases this with rfl | rfl | rfl | rfl | rfl | rfl
      · left; decide
      · right; left; decide
      · right; right; left; decide
      · right; right; right; left; decide
      · right; right; right; right; left; decide
      · right; right; right; right; right; decide
    generalize hb : bt (⟨#[40, 91, 41, 93, 97, 98]⟩ : ByteArray) v = b at *
    have b4 : x5.length < 140737488355328 := by omega
    have step2 : ∀ c : Int, (c = 40 ∨ c = 91 ∨ c = 41 ∨ c = 93 ∨ c = 97 ∨ c = 98) → ∃ r, Ev (fun k => spec_l01Drawn.j2 k m x5 x6 x7 ((d + 1 : Nat) : Int) c s at2 sd2) r ∧ Drawn m r := by
      intro c hc
      have go : ∀ y : Int, -200 + d ≤ y → y + d ≤ 200 → ∃ r, Ev (fun k => spec_l01Drawn.l0 k m (x5 ++ [c]) y x7 d s at2 sd2) r ∧ Drawn m r :=
        fun y p q => ih (x5 ++ [c]) y x7 at2 sd2 (by simp; omega) (syms_snoc hy hc) (by omega) (by omega) p q
      obtain ⟨r1, e1, d1⟩ := go x6 (by omega) (by omega)
      obtain ⟨r2, e2, d2⟩ := go (x6 + 1) (by omega) (by omega)
      obtain ⟨r3, e3, d3⟩ := go (x6 - 1) (by omega) (by omega)
      have f1 : wrap64 (x6 + 1) = x6 + 1 := w64 (by omega) (by omega)
      have f2 : wrap64 (x6 - 1) = x6 - 1 := w64 (by omega) (by omega)
      have f3 : wrap64 (((d + 1 : Nat) : Int) - 1) = (d : Int) := by rw [w64 (by omega) (by omega)]; push_cast; omega
      have f4 : wrap64 (x6 + 1 - 1) = x6 := by rw [w64 (by omega) (by omega)]; omega
      have key : ∃ r, Ev (fun k => spec_l01Drawn.j2 (k + 1) m x5 x6 x7 ((d + 1 : Nat) : Int) c s at2 sd2) r ∧ Drawn m r := by
        simp only [spec_l01Drawn.j2, sCall_eq, sReturn_eq, Option.bind_some, if_pos b4, f1, f2, f3, f4]
        split
        · split
          · split
            · exact ⟨r1, e1, d1⟩
            · exact ⟨r2, e2, d2⟩
          · exact ⟨r2, e2, d2⟩
        · split
          · split
            · exact ⟨r3, e3, d3⟩
            · exact ⟨r1, e1, d1⟩
          · exact ⟨r1, e1, d1⟩
      obtain ⟨r, er, dr⟩ := key
      exact ⟨r, Ev.succ er, dr⟩
    have step1 : ∀ z : Bool, ∃ r, Ev (fun k => spec_l01Drawn.j1 k m x5 x6 x7 ((d + 1 : Nat) : Int) b z s at2 sd2) r ∧ Drawn m r := by
      intro z
      cases z with
      | true =>
        obtain ⟨r, er, dr⟩ := step2 40 (Or.inl rfl)
        exact ⟨r, Ev.succ (by simp only [spec_l01Drawn.j1, if_true]; exact er), dr⟩
      | false =>
        obtain ⟨r, er, dr⟩ := step2 b hx
        exact ⟨r, Ev.succ (by simp only [spec_l01Drawn.j1, Bool.false_eq_true, if_false]; exact er), dr⟩
    have key : ∃ r, Ev (fun k => spec_l01Drawn.l0 (k + 1) m x5 x6 x7 ((d + 1 : Nat) : Int) s at_ sd) r ∧ Drawn m r := by
      have b5 : ((d + 1 : Nat) : Int) > 0 := by omega
      simp only [spec_l01Drawn.l0, if_pos b5, e, Option.bind_some, if_pos hv'.1, if_pos hv'.2, sReturn_eq, hb]
      split
      · split
        · exact step1 _
        · exact step1 _
      · exact step1 _
    obtain ⟨r, er, dr⟩ := key
    exact ⟨r, Ev.succ er, dr⟩

/-- A drawn word is a word of at most m symbols. -/
theorem a2word (l : List Int) (hs : Bytes l) (m : Nat) (hm : m ≤ 60) : ∃ w, Ev (fun k => spec_A2Word.f k l m) w ∧ okw w = true ∧ w.size ≤ m := by
  obtain ⟨v, at2, sd2, e, a1, a2⟩ := one_ok hs 0 0 3 (by omega) (by omega) (by omega) (by omega)
  obtain ⟨v2, at3, sd3, e2, v0, v1, a3, a4⟩ := pick_ok hs at2 sd2 ((m : Int) + 1) (by omega) (by omega) (by omega) (by omega)
  obtain ⟨j, rfl⟩ := Int.eq_ofNat_of_zero_le v0
  obtain ⟨r, er, lst, q1, q2, q3⟩ := drawn_l0 hs m hm j [] 0 (!v) at3 sd3 (by simp; omega) (fun x hx => by simp at hx) (by omega) (by omega) (by omega) (by omega)
  have f1 : wrap64 ((m : Int) + 1) = (m : Int) + 1 := w64 (by omega) (by omega)
  refine ⟨r.1, ?_, by rw [q1]; exact okw_syms q2 (by omega), by rw [q1, sn_size]; exact q3⟩
  unfold spec_A2Word.f spec_l00From.f
  simp only [Option.bind_some]
  refine Ev.bind (a := r) ?_ (Ev.now _)
  unfold spec_l01Drawn.f
  simp only [e, Option.bind_some, f1, e2]
  exact er

end Go.Proofs.Ytolmmfcofbhagaa.Br
namespace Go.Proofs.Ytolmmfcofbhagaa.Br
open Go.RowKit Go.Proofs.Ytolmmfcofbhagaa.PC Go.Proofs.YtolmmfcofbhagaaW.PrintWords Go.Proofs.YtolmmfcofbhagaaW.PrintLast Go.Proofs.YtolmmfcofbhagaaW.PrintMore Go.Proofs.Ytolmmfcofbhagaa.Th
set_option linter.unusedVariables false
set_option linter.unusedSimpArgs false
theorem iPartners_ev (a : ByteArray) (hn : a.size ≤ 1048576) : Ev (fun k => impl_PartnersOf.f k a) (if okw a = true then ((st (bt a) a.size).p, 0) else ([], 1)) := by
  unfold impl_PartnersOf.f
  refine Ev.bind (valid_ev a hn) ?_
  by_cases h : okw a = true
  · simp only [h, if_true]
    exact Ev.bind (match_ev a hn) (Ev.now _)
  · simp only [h, if_false]
    exact Ev.now _
/-- Is a word matched. -/
def mtc (a : ByteArray) : Bool := ((((st (bt a) a.size).r.length : Int) + ((st (bt a) a.size).c.length : Int)) == 0)
theorem iMatched_ev (a : ByteArray) (hn : a.size ≤ 1048576) : Ev (fun k => impl_isMatched.f k a) (mtc a) := by
  unfold impl_isMatched.f
  refine Ev.bind (match_ev a hn) ?_
  have B := basic (bt a) a.size
  have h1 := B.lr
  have h2 := B.lc
  simp only
  rw [w64 (by omega) (by omega)]
  exact Ev.now _
theorem iIsMatched_ev (a : ByteArray) (hn : a.size ≤ 1048576) : Ev (fun k => impl_IsMatched.f k a) (if okw a = true then (mtc a, 0) else (false, 1)) := by
  unfold impl_IsMatched.f
  refine Ev.bind (valid_ev a hn) ?_
  by_cases h : okw a = true
  · simp only [h, if_true]
    exact Ev.bind (iMatched_ev a hn) (Ev.now _)
  · simp only [h, if_false]
    exact Ev.now _

theorem in_eq (a lo hi : Int) : spec_l00In.f a lo hi = some (decide (lo ≤ a ∧ a ≤ hi)) := by
  unfold spec_l00In.f
  by_cases h : a ≥ lo
  · rw [if_pos h]; congr 1; simp; omega
  · rw [if_neg h]; congr 1; simp; omega
theorem within_eq (a lo hi : Int) : impl_within.f a lo hi = some (decide (lo ≤ a ∧ a ≤ hi)) := by
  unfold impl_within.f
  by_cases h : a ≥ lo
  · rw [if_pos h]; congr 1; simp; omega
  · rw [if_neg h]; congr 1; simp; omega

end Go.Proofs.Ytolmmfcofbhagaa.Br
namespace Go.Proofs.Ytolmmfcofbhagaa.Br
open Go.RowKit Go.Proofs.Ytolmmfcofbhagaa.PC Go.Proofs.YtolmmfcofbhagaaW.PrintWords Go.Proofs.YtolmmfcofbhagaaW.PrintLast Go.Proofs.YtolmmfcofbhagaaW.PrintMore Go.Proofs.Ytolmmfcofbhagaa.Th
set_option linter.unusedVariables false
set_option linter.unusedSimpArgs false
/-- The return of the call at a place. -/
def clo (a : ByteArray) (x : Int) : Int × Int :=
  if okw a = true then (if 0 ≤ x ∧ x ≤ (a.size : Int) - 1 then (if isC (bt a x) = true ∧ 0 ≤ rd (st (bt a) a.size).p x then (rd (st (bt a) a.size).p x, 0) else (0, 4)) else (0, 2)) else (0, 1)

theorem clo_zero {a : ByteArray} {x : Int} (h : (clo a x).2 = 0) : 0 ≤ x ∧ x < (clo a x).1 ∧ (clo a x).1 < a.size ∧ a.size ≤ 60 ∧ okw a = true := by
  unfold clo at h ⊢
  split at h <;> rename_i h1
  · split at h <;> rename_i h2
    · split at h <;> rename_i h3
      · simp only [if_pos h1, if_pos h2, if_pos h3]
        obtain ⟨j, rfl⟩ := Int.eq_ofNat_of_zero_le h2.1
        rw [g_rd] at h3 ⊢
        have := (inv (bt a) a.size).pos j (by omega) h3.2
        refine ⟨h2.1, ?_, this.1, okw_size h1, h1⟩
        rcases this.2.2 with h4 | h4
        · exact h4.2
        · rw [isR_notC h4.1] at h3; simp at h3
      · simp at h
    · simp at h
  · simp at h

theorem iClosed_ev (a : ByteArray) (x : Int) (hn : a.size ≤ 1048576) : Ev (fun k => impl_bodyAt.f k a x) (clo a x) := by
  unfold impl_bodyAt.f clo
  refine Ev.bind (valid_ev a hn) ?_
  have B := basic (bt a) a.size
  have lp := B.lp
  have f1 : wrap64 ((a.size : Int) - 1) = (a.size : Int) - 1 := w64 (by omega) (by omega)
  by_cases h : okw a = true
  · simp only [h, if_true, f1, within_eq, Option.bind_some]
    by_cases h2 : 0 ≤ x ∧ x ≤ (a.size : Int) - 1
    · rw [if_pos h2, decide_eq_true h2]
      simp only [if_true]
      refine Ev.bind (match_ev a hn) ?_
      simp only [lp]
      have b1 : x < (a.size : Int) := by omega
      simp only [if_pos h2.1, if_pos b1, isCall_eq, Option.bind_some]
      by_cases h3 : isC (bt a x) = true
      · simp only [h3, if_true, true_and]
        by_cases h4 : rd (st (bt a) a.size).p x < 0
        · rw [if_pos h4, if_neg (by omega)]; exact Ev.now _
        · rw [if_neg h4, if_pos (by omega)]; exact Ev.now _
      · simp only [h3, if_false, false_and]; exact Ev.now _
    · rw [if_neg h2, decide_eq_false h2]
      exact Ev.now _
  · simp only [h, if_false]
    exact Ev.now _

def cutR (a : ByteArray) (x : Int) : ByteArray × Int := if (clo a x).2 = 0 then (a.extract 0 x.toNat ++ a.extract ((clo a x).1 + 1).toNat a.size, 0) else ((⟨#[]⟩ : ByteArray), (clo a x).2)

theorem iCut_ev (a : ByteArray) (x : Int) (hn : a.size ≤ 1048576) (hx : (Lit.int .i64 x).wf = true) : Ev (fun k => impl_CutMatched.f k a x) (cutR a x) := by
  unfold impl_CutMatched.f cutR
  refine Ev.bind (iClosed_ev a x hn) ?_
  by_cases h : (clo a x).2 = 0
  · have z := clo_zero h
    have b0 : 0 ≤ x := z.1
    have b1 : x ≤ (a.size : Int) := by omega
    have b2 : 0 ≤ (clo a x).1 + 1 := by omega
    have b3 : (clo a x).1 + 1 ≤ (a.size : Int) := by omega
    have b4 : (a.extract 0 x.toNat).size + (a.extract ((clo a x).1 + 1).toNat a.size).size ≤ 9223372036854775807 := by
      rw [ByteArray.size_extract, ByteArray.size_extract]; omega
    have f1 : wrap64 ((clo a x).1 + 1) = (clo a x).1 + 1 := w64 (by omega) (by omega)
    simp only [if_pos h, f1, if_pos b0, if_pos b1, if_pos b2, if_pos b3, if_pos b4]
    exact Ev.now _
  · simp only [if_neg h]; exact Ev.now _

theorem okw_extract {a : ByteArray} (ha : okw a = true) {i e : Nat} (he : e ≤ a.size) : okw (a.extract i e) = true := by
  have hs := okw_size ha
  rw [okw_iff, ByteArray.size_extract]
  refine ⟨fun j hj => ?_, by omega⟩
  rw [bt_extract a he (by omega)]
  exact okw_sym ha (by omega)

/-- A word with another one put in behind its first symbols. -/
def ins (a : ByteArray) (i : Nat) (u : ByteArray) : ByteArray := (a.extract 0 i ++ u) ++ a.extract i a.size
theorem ins_size (a : ByteArray) {i : Nat} (u : ByteArray) (hi : i ≤ a.size) : (ins a i u).size = a.size + u.size := by
  unfold ins
  rw [ByteArray.size_append, ByteArray.size_append, ByteArray.size_extract, ByteArray.size_extract]; omega
theorem okw_ins {a u : ByteArray} (ha : okw a = true) (hu : okw u = true) {i : Nat} (hi : i ≤ a.size) : okw (ins a i u) = decide (a.size + u.size ≤ 60) := by
  by_cases h : a.size + u.size ≤ 60
  · have e1 : okw (a.extract 0 i ++ u) = true := by
      rw [okw_append (okw_extract ha hi) hu, ByteArray.size_extract, decide_eq_true_eq]; omega
    rw [ins, okw_append e1 (okw_extract ha (Nat.le_refl _)), ByteArray.size_append, ByteArray.size_extract, ByteArray.size_extract]
    congr 1
    simp; omega
  · rw [decide_eq_false h]
    by_cases h2 : okw (ins a i u) = true
    · have := okw_size h2; rw [ins_size a u hi] at this; omega
    · simpa using h2

/-- What PutAt tells. -/
def putR (a : ByteArray) (x : Int) (u : ByteArray) : ByteArray × Int :=
  if okw a = true ∧ okw u = true then (if 0 ≤ x ∧ x ≤ (a.size : Int) then (if mtc u = true then (if a.size + u.size ≤ 60 then (ins a x.toNat u, 0) else ((⟨#[]⟩ : ByteArray), 3)) else ((⟨#[]⟩ : ByteArray), 4)) else ((⟨#[]⟩ : ByteArray), 2)) else ((⟨#[]⟩ : ByteArray), 1)

theorem iPut_ev (a : ByteArray) (x : Int) (u : ByteArray) (hn : a.size ≤ 1048576) (hm : u.size ≤ 1048576) (hx : (Lit.int .i64 x).wf = true) : Ev (fun k => impl_PutAt.f k a x u) (putR a x u) := by
  unfold impl_PutAt.f putR
  refine Ev.bind (valid_ev a hn) ?_
  by_cases h : okw a = true
  · simp only [h, if_true, true_and]
    refine Ev.bind (valid_ev u hm) ?_
    refine Ev.succ ?_
    simp only [impl_PutAt.j0]
    by_cases h2 : okw u = true
    · simp only [h2, if_true, Bool.not_true, Bool.false_eq_true, if_false, within_eq, Option.bind_some]
      by_cases h3 : 0 ≤ x ∧ x ≤ (a.size : Int)
      · rw [if_pos h3]
        simp only [h3, and_self, decide_true, if_true]
        refine Ev.bind (iMatched_ev u hm) ?_
        by_cases h4 : mtc u = true
        · obtain ⟨j, rfl⟩ := Int.eq_ofNat_of_zero_le h3.1
          have s1 := okw_size h
          have s2 := okw_size h2
          have b1 : (a.extract 0 j).size + u.size ≤ 9223372036854775807 := by rw [ByteArray.size_extract]; omega
          have b2 : (a.extract 0 j ++ u).size + (a.extract j a.size).size ≤ 9223372036854775807 := by
            rw [ByteArray.size_append, ByteArray.size_extract, ByteArray.size_extract]; omega
          have hz := ins_size a u (show j ≤ a.size by omega)
          simp only [h4, if_true, Int.toNat_natCast, if_pos b1, if_pos b2]
          have e := okw_ins h h2 (show j ≤ a.size by omega)
          refine Ev.bind (a := if a.size + u.size ≤ 60 then (ins a j u, 0) else ((⟨#[]⟩ : ByteArray), 3)) ?_ (Ev.now _)
          show Ev (fun k => impl_orLimit.f k (ins a j u)) _
          unfold impl_orLimit.f
          refine Ev.bind (valid_ev _ (by omega)) ?_
          rw [e]
          by_cases h5 : a.size + u.size ≤ 60
          · simp only [h5, decide_true, if_true]; exact Ev.now _
          · simp only [h5, decide_false, Bool.false_eq_true, if_false]; exact Ev.now _
        · simp only [h4, if_false]; exact Ev.now _
      · rw [if_neg h3, decide_eq_false h3]; exact Ev.now _
    · simp only [h2, if_false, Bool.not_false, if_true]; exact Ev.now _
  · simp only [h, if_false, false_and]
    refine Ev.succ ?_
    simp only [impl_PutAt.j0, if_true]
    exact Ev.now _

end Go.Proofs.Ytolmmfcofbhagaa.Br
namespace Go.Proofs.Ytolmmfcofbhagaa.Br
open Go.RowKit Go.Proofs.Ytolmmfcofbhagaa.PC Go.Proofs.YtolmmfcofbhagaaW.PrintWords Go.Proofs.YtolmmfcofbhagaaW.PrintLast Go.Proofs.YtolmmfcofbhagaaW.PrintMore Go.Proofs.Ytolmmfcofbhagaa.Th
set_option linter.unusedVariables false
set_option linter.unusedSimpArgs false
theorem mtc_nil {a : ByteArray} (h : mtc a = true) : (st (bt a) a.size).r = [] ∧ (st (bt a) a.size).c = [] := by
  unfold mtc at h
  simp only [beq_iff_eq] at h
  constructor
  · apply List.eq_nil_of_length_eq_zero; omega
  · apply List.eq_nil_of_length_eq_zero; omega
end Go.Proofs.Ytolmmfcofbhagaa.Br
namespace Go.Proofs.Ytolmmfcofbhagaa.Br
open Go.RowKit Go.Proofs.Ytolmmfcofbhagaa.PC Go.Proofs.YtolmmfcofbhagaaW.PrintWords Go.Proofs.YtolmmfcofbhagaaW.PrintLast Go.Proofs.YtolmmfcofbhagaaW.PrintMore Go.Proofs.Ytolmmfcofbhagaa.Th
set_option linter.unusedVariables false
set_option linter.unusedSimpArgs false
theorem down {P : Nat → Prop} (n : Nat) (h0 : P n) (h1 : ∀ i, i < n → P (i + 1) → P i) : ∀ i, i ≤ n → P i := by
  have key : ∀ d i, i + d = n → P i := by
    intro d
    induction d with
    | zero => intro i hi; obtain rfl : i = n := by omega
              exact h0
    | succ d ih => intro i hi; exact h1 i (by omega) (ih (i + 1) (by omega))
  intro i hi
  exact key (n - i) i (by omega)
theorem up1 (i : Nat) (h : i < 9223372036854775807) : wrap64 ((i : Int) + 1) = ((i + 1 : Nat) : Int) := by
  rw [w64 (by omega) (by omega)]; rfl
theorem i0 (i : Nat) : 0 ≤ (i : Int) := by omega
theorem getD_mem {α : Type} (l : List α) (i : Nat) (d : α) (h : i < l.length) : l.getD i d ∈ l := by
  rw [List.getD_eq_getElem?_getD, List.getElem?_eq_getElem h]
  exact List.getElem_mem h
end Go.Proofs.Ytolmmfcofbhagaa.Br
namespace Go.Proofs.Ytolmmfcofbhagaa.Th

theorem step_c (s : St) (i b : Int) : (step s i b).c = if isR b = true then s.c.dropLast else if isC b = true then s.c ++ [i] else s.c := by
  unfold step
  split
  · split
    · rename_i h; rw [h]; rfl
    · rfl
  · split <;> rfl
theorem step_r (s : St) (i b : Int) : (step s i b).r = if isR b = true ∧ s.c = [] then s.r ++ [i] else s.r := by
  unfold step
  by_cases h : isR b = true
  · by_cases h2 : s.c = [] <;> simp [h, h2]
  · by_cases h3 : isC b = true <;> simp [h, h3]
theorem st_succ (b : Int → Int) (n : Nat) : st b (n + 1) = step (st b n) n (b n) := rfl
theorem st_congr {b b' : Int → Int} : ∀ n, (∀ j : Nat, j < n → b j = b' j) → st b n = st b' n
  | 0, _ => rfl
  | n + 1, h => by rw [st_succ, st_succ, st_congr n (fun j hj => h j (by omega)), h n (by omega)]
theorem r_mono (b : Int → Int) (n : Nat) : ∀ m, ∃ l, (st b (n + m)).r = (st b n).r ++ l
  | 0 => ⟨[], by simp⟩
  | m + 1 => by
    obtain ⟨l, hl⟩ := r_mono b n m
    rw [← Nat.add_assoc, st_succ, step_r, hl]
    split
    · exact ⟨l ++ [((n + m : Nat) : Int)], by simp⟩
    · exact ⟨l, rfl⟩
theorem r_nil {b : Int → Int} {n m : Nat} (h : (st b m).r = []) (hn : n ≤ m) : (st b n).r = [] := by
  obtain ⟨d, rfl⟩ := Nat.exists_eq_add_of_le hn
  obtain ⟨l, hl⟩ := r_mono b n d
  rw [h] at hl
  have := List.append_eq_nil_iff.1 hl.symm
  exact this.1
end Go.Proofs.Ytolmmfcofbhagaa.Th
namespace Go.Proofs.Ytolmmfcofbhagaa.Br
open Go.RowKit Go.Proofs.Ytolmmfcofbhagaa.PC Go.Proofs.YtolmmfcofbhagaaW.PrintWords Go.Proofs.YtolmmfcofbhagaaW.PrintLast Go.Proofs.YtolmmfcofbhagaaW.PrintMore Go.Proofs.Ytolmmfcofbhagaa.Th
set_option linter.unusedVariables false
set_option linter.unusedSimpArgs false
/-- How many words of n symbols close d open calls, for depths up to L. -/
def wy (L : Nat) : Nat → Nat → Int
  | 0, d => if d = 0 then 1 else 0
  | n + 1, d => if d ≤ L then 2 * wy L n d + 2 * wy L n (d + 1) + (if d = 0 then 0 else 2 * wy L n (d - 1)) else 0
theorem wy_range (L : Nat) : ∀ n d, 0 ≤ wy L n d ∧ wy L n d ≤ 6 ^ n
  | 0, d => by unfold wy; split <;> simp
  | n + 1, d => by
    have h0 := wy_range L n d
    have h1 := wy_range L n (d + 1)
    have h2 := wy_range L n (d - 1)
    have e : (6 : Int) ^ (n + 1) = 6 * 6 ^ n := by rw [Int.pow_succ]; omega
    rw [e]
    unfold wy
    generalize (6 : Int) ^ n = B at *
    split
    · split <;> omega
    · omega
theorem pow_le (n : Nat) (h : n ≤ 20) : (6 : Int) ^ n ≤ 3656158440062976 := by
  have h1 : (6 : Nat) ^ n ≤ 6 ^ 20 := Nat.pow_le_pow_right (by decide) h
  have h2 : (6 : Nat) ^ 20 = 3656158440062976 := by decide
  have h3 : ((6 ^ n : Nat) : Int) = (6 : Int) ^ n := by push_cast; rfl
  omega
theorem wy_small (L n d : Nat) (h : n ≤ 20) : 0 ≤ wy L n d ∧ wy L n d ≤ 3656158440062976 := by
  have := wy_range L n d
  have := pow_le n h
  omega
def rowW (L n : Nat) : List Int := (List.range (L + 2)).map (wy L n)
def prow (L n d : Nat) : List Int := (List.range (L + 2)).map (fun e => if e < d then wy L n e else 0)
def tab (L m : Nat) : List (List Int) := (List.range m).map (rowW L)
theorem rowW_len (L n : Nat) : (rowW L n).length = L + 2 := by simp [rowW]
theorem prow_len (L n d : Nat) : (prow L n d).length = L + 2 := by simp [prow]
theorem tab_len (L m : Nat) : (tab L m).length = m := by simp [tab]
theorem rd_range (f : Nat → Int) (N d : Nat) (h : d < N) : rd ((List.range N).map f) d = f d := by
  unfold rd
  rw [Int.toNat_natCast, List.getD_eq_getElem?_getD, List.getElem?_map, List.getElem?_range h]
  rfl
theorem rdL_tab (L m n : Nat) (h : n < m) : rd_L2 (tab L m) n = rowW L n := by
  unfold rd_L2 tab
  rw [Int.toNat_natCast, List.getD_eq_getElem?_getD, List.getElem?_map, List.getElem?_range h]
  rfl
theorem prow_zero (L n : Nat) : prow L n 0 = List.replicate (L + 2) 0 := by
  unfold prow
  apply List.ext_getElem
  · simp
  · intro i h1 h2; simp
theorem prow_set (L n d : Nat) (h : d ≤ L) : (prow L n d).set d (wy L n d) = prow L n (d + 1) := by
  unfold prow
  apply List.ext_getElem
  · simp
  · intro i h1 h2
    rw [List.getElem_set]
    simp only [List.getElem_map, List.getElem_range]
    by_cases e : d = i
    · subst e; simp
    · rw [if_neg e]
      by_cases e2 : i < d
      · rw [if_pos e2, if_pos (by omega)]
      · rw [if_neg e2, if_neg (by omega)]
theorem prow_all (L n : Nat) (hn : 1 ≤ n) : prow L n (L + 1) = rowW L n := by
  unfold prow rowW
  apply List.ext_getElem
  · simp
  · intro i h1 h2
    simp only [List.getElem_map, List.getElem_range]
    by_cases e : i < L + 1
    · rw [if_pos e]
    · rw [if_neg e]
      obtain ⟨m, rfl⟩ : ∃ m, n = m + 1 := ⟨n - 1, by omega⟩
      unfold wy
      rw [if_neg (by omega)]
theorem row_first (L : Nat) : (List.replicate (L + 2) (0 : Int)).set 0 1 = rowW L 0 := by
  unfold rowW
  apply List.ext_getElem
  · simp
  · intro i h1 h2
    rw [List.getElem_set]
    simp only [List.getElem_map, List.getElem_range, List.getElem_replicate]
    unfold wy
    by_cases e : i = 0
    · subst e; simp
    · rw [if_neg (fun h => e h.symm), if_neg e]
theorem tab_succ (L m : Nat) : tab L (m + 1) = tab L m ++ [rowW L m] := by
  unfold tab
  rw [List.range_succ, List.map_append]
  rfl

theorem ways_l1 (L : Nat) (hL : L ≤ 20) (n : Nat) (hn : n + 1 ≤ L) (R : List (List Int)) (hR : Ev (fun k => spec_l01Ways.l0 k L (tab L (n + 2)) ((n + 2 : Nat) : Int)) R) :
    ∀ d, d ≤ L + 1 → Ev (fun k => spec_l01Ways.l1 k L (tab L (n + 1)) ((n + 1 : Nat) : Int) (prow L (n + 1) d) d) R := by
  have hw : ∀ d, 0 ≤ wy L n d ∧ wy L n d ≤ 3656158440062976 := fun d => wy_small L n d (by omega)
  have b0 : ((n + 1 : Nat) : Int) > 0 := by omega
  have b1 : (n : Int) < ((tab L (n + 1)).length : Int) := by rw [tab_len]; omega
  have b2 : (tab L (n + 1)).length < 5864062014805 := by rw [tab_len]; omega
  have b3 : ¬ ((L + 1 : Nat) : Int) ≤ (L : Int) := by omega
  have hall := prow_all L (n + 1) (by omega)
  have b4 : n < n + 1 := by omega
  have f1 : wrap64 (((n + 1 : Nat) : Int) - 1) = (n : Int) := by rw [w64 (by omega) (by omega)]; push_cast; omega
  have f2 : wrap64 (((n + 1 : Nat) : Int) + 1) = ((n + 2 : Nat) : Int) := by rw [w64 (by omega) (by omega)]; push_cast; omega
  refine down (L + 1) ?_ ?_
  · refine Ev.succ ?_
    simp only [spec_l01Ways.l1, if_pos b0, decide_eq_false b3]
    refine Ev.succ ?_
    simp only [spec_l01Ways.j3, Bool.false_eq_true, if_false, if_pos b2, f2]
    rw [hall, ← tab_succ]
    exact hR
  · intro d hd ih
    have q0 := hw d
    have q1 := hw (d + 1)
    have q2 := hw (d - 1)
    have hdL : d ≤ L := by clear f1 f2; omega
    have c0 : (d : Int) ≤ (L : Int) := by clear f1 f2; omega
    have c1 : d < L + 2 := by clear f1 f2; omega
    have c2 : d + 1 < L + 2 := by clear f1 f2; omega
    have c3 : d - 1 < L + 2 := by clear f1 f2; omega
    have e2 : rd (rowW L n) d = wy L n d := rd_range _ _ _ c1
    have e3 : rd (rowW L n) ((d + 1 : Nat) : Int) = wy L n (d + 1) := rd_range _ _ _ c2
    have e4 : rd (rowW L n) ((d - 1 : Nat) : Int) = wy L n (d - 1) := rd_range _ _ _ c3
    have g1 : (d : Int) < ((rowW L n).length : Int) := by rw [rowW_len]; exact_mod_cast c1
    have g2 : ((d + 1 : Nat) : Int) < ((rowW L n).length : Int) := by rw [rowW_len]; exact_mod_cast c2
    have g3 : (d : Int) < ((prow L (n + 1) d).length : Int) := by rw [prow_len]; exact_mod_cast c1
    have g4 : ((d - 1 : Nat) : Int) < ((rowW L n).length : Int) := by rw [rowW_len]; exact_mod_cast c3
    have e5 : ∀ v : Int, rd ((prow L (n + 1) d).set d v) d = v := by
      intro v
      unfold rd
      rw [Int.toNat_natCast, List.getD_eq_getElem?_getD, List.getElem?_set_self (by rw [prow_len]; exact c1)]
      rfl
    have ed : wy L (n + 1) d = 2 * wy L n d + 2 * wy L n (d + 1) + (if d = 0 then 0 else 2 * wy L n (d - 1)) := by
      conv => lhs; unfold wy
      rw [if_pos hdL]
    have hset := prow_set L (n + 1) d hdL
    have u1 := up1 d (by clear f1 f2; omega)
    generalize wy L n d = A at *
    generalize wy L n (d + 1) = B at *
    generalize wy L n (d - 1) = C at *
    have f3 : wrap64 (2 * A) = 2 * A := w64 (by clear f1 f2 u1; omega) (by clear f1 f2 u1; omega)
    have f4 : wrap64 (2 * B) = 2 * B := w64 (by clear f1 f2 u1 f3; omega) (by clear f1 f2 u1 f3; omega)
    have f5 : wrap64 (2 * A + 2 * B) = 2 * A + 2 * B := w64 (by clear f1 f2 u1 f3 f4; omega) (by clear f1 f2 u1 f3 f4; omega)
    have f7 : wrap64 (2 * C) = 2 * C := w64 (by clear f1 f2 u1 f3 f4 f5; omega) (by clear f1 f2 u1 f3 f4 f5; omega)
    have f8 : wrap64 (2 * A + 2 * B + 2 * C) = 2 * A + 2 * B + 2 * C := w64 (by clear f1 f2 u1 f3 f4 f5 f7; omega) (by clear f1 f2 u1 f3 f4 f5 f7; omega)
    refine Ev.succ ?_
    simp only [spec_l01Ways.l1, if_pos b0, decide_eq_true c0]
    refine Ev.succ ?_
    simp only [spec_l01Ways.j3, if_true, f1, if_pos (i0 n), if_pos b1, if_pos (i0 d), rdL_tab L (n + 1) n b4, if_pos g1, u1, if_pos (i0 (d + 1)), if_pos g2, if_pos g3, e2, e3, f3, f4, f5, Option.bind_some, Int.toNat_natCast]
    by_cases d0 : d = 0
    · subst d0
      rw [if_pos rfl, Int.add_zero] at ed
      simp only [Int.natCast_zero, show ¬ ((0 : Int) > 0) by decide, if_false]
      rw [ed] at hset
      rw [hset]
      exact ih
    · rw [if_neg d0] at ed
      have h1 : (d : Int) > 0 := by clear f1 f2 u1 f3 f4 f5 f7 f8; omega
      have f6 : wrap64 ((d : Int) - 1) = ((d - 1 : Nat) : Int) := by clear f1 f2 u1 f3 f4 f5 f7 f8; rw [w64 (by omega) (by omega)]; omega
      simp only [if_pos h1, f6, if_pos (i0 (d - 1)), if_pos g4, e4, f7, e5, f8, List.set_set]
      rw [ed] at hset
      rw [hset]
      exact ih
theorem ways_ev (L : Nat) (hL : L ≤ 20) : Ev (fun k => spec_l01Ways.f k L) (tab L (L + 1)) := by
  have f0 : wrap64 ((L : Int) + 2) = ((L + 2 : Nat) : Int) := by rw [w64 (by omega) (by omega)]; push_cast; rfl
  have loop : ∀ n, n ≤ L + 1 → Ev (fun k => spec_l01Ways.l0 k L (tab L n) n) (tab L (L + 1)) := by
    refine down (L + 1) ?_ ?_
    · refine Ev.succ ?_
      simp only [spec_l01Ways.l0, if_neg (show ¬ ((L + 1 : Nat) : Int) ≤ (L : Int) by omega)]
      exact Ev.now _
    · intro n hn ih
      refine Ev.succ ?_
      simp only [spec_l01Ways.l0, if_pos (show (n : Int) ≤ (L : Int) by omega), f0, if_pos (i0 (L + 2)), Int.toNat_natCast, if_pos (show L + 2 ≤ 35184372088832 by omega), Option.bind_some]
      by_cases n0 : n = 0
      · subst n0
        simp only [Int.natCast_zero, if_true, List.length_replicate, if_pos (show (0 : Int) < ((L + 2 : Nat) : Int) by omega), Int.toNat_zero]
        rw [row_first]
        refine Ev.succ ?_
        simp only [spec_l01Ways.j1]
        refine Ev.succ ?_
        simp only [spec_l01Ways.l1, show ¬ ((0 : Int) > 0) by decide, if_false]
        refine Ev.succ ?_
        have u0 : wrap64 ((0 : Int) + 1) = ((0 + 1 : Nat) : Int) := by rw [w64 (by decide) (by decide)]; rfl
        simp only [spec_l01Ways.j3, Bool.false_eq_true, if_false, if_pos (show (tab L 0).length < 5864062014805 by rw [tab_len]; omega), u0]
        rw [← tab_succ]
        exact ih
      · obtain ⟨m, rfl⟩ : ∃ m, n = m + 1 := ⟨n - 1, by omega⟩
        simp only [if_neg (show ¬ ((m + 1 : Nat) : Int) = 0 by omega)]
        refine Ev.succ ?_
        simp only [spec_l01Ways.j1]
        have := ways_l1 L hL m (by omega) _ ih 0 (by omega)
        rw [prow_zero] at this
        exact this
  unfold spec_l01Ways.f
  exact loop 0 (by omega)

/-- A list of symbols of which all returns match, with d open calls. -/
def gl (l : List Int) : Int → Int := fun j => g l j.toNat
def Opn (l : List Int) (d : Nat) : Prop := Syms l ∧ (st (gl l) l.length).r = [] ∧ (st (gl l) l.length).c.length = d
/-- The depth behind a symbol, -1 if there is none. -/
def nx (d : Nat) (c : Int) : Int := if isC c = true then (d : Int) + 1 else if isR c = true then (d : Int) - 1 else d
theorem opn_snoc {l : List Int} {d e : Nat} {c : Int} (h : Opn l d) (hc : c = 40 ∨ c = 91 ∨ c = 41 ∨ c = 93 ∨ c = 97 ∨ c = 98) (he : nx d c = e) : Opn (l ++ [c]) e := by
  obtain ⟨h1, h2, h3⟩ := h
  have e1 : (l ++ [c]).length = l.length + 1 := by simp
  have e2 : st (gl (l ++ [c])) l.length = st (gl l) l.length := by
    refine st_congr _ fun j hj => ?_
    unfold gl
    rw [Int.toNat_natCast]
    exact g_append_left hj
  have e3 : gl (l ++ [c]) (l.length : Int) = c := by
    unfold gl
    rw [Int.toNat_natCast]
    exact g_append_end rfl
  refine ⟨syms_snoc h1 hc, ?_, ?_⟩
  · rw [e1, st_succ, step_r, e2, e3, h2]
    by_cases hR : isR c = true
    · have hC := isR_notC hR
      unfold nx at he
      rw [if_neg (by rw [hC]; decide), if_pos hR] at he
      have : (st (gl l) l.length).c ≠ [] := fun h0 => by rw [h0] at h3; simp at h3; omega
      rw [if_neg (fun h => this h.2)]
    · rw [if_neg (fun h => hR h.1)]
  · rw [e1, st_succ, step_c, e2, e3]
    unfold nx at he
    by_cases hR : isR c = true
    · have hC := isR_notC hR
      rw [if_neg (by rw [hC]; decide), if_pos hR] at he
      rw [if_pos hR, List.length_dropLast]
      omega
    · rw [if_neg hR]
      by_cases hC : isC c = true
      · rw [if_pos hC] at he
        rw [if_pos hC, List.length_append]
        simp; omega
      · rw [if_neg hC, if_neg hR] at he
        rw [if_neg hC]
        omega
theorem syms_byte {l : List Int} (h : Syms l) : ∀ x ∈ l, 0 ≤ x ∧ x ≤ 255 := fun x hx => by
  rcases h x hx with r | r | r | r | r | r <;> omega
theorem opn_mtc {l : List Int} (h : Opn l 0) : mtc (strOfNums l) = true := by
  obtain ⟨h1, h2, h3⟩ := h
  unfold mtc
  rw [sn_size, st_congr (b' := gl l) l.length (fun j hj => by rw [sn_bt (syms_byte h1)]; unfold gl; rw [Int.toNat_natCast]), h2, h3]
  decide
/-- What the words with a symbol next are in number. -/
def ow (L n d : Nat) (x : Nat) : Int := if nx d (bt (⟨#[40, 91, 41, 93, 97, 98]⟩ : ByteArray) x) < 0 then 0 else wy L n (nx d (bt (⟨#[40, 91, 41, 93, 97, 98]⟩ : ByteArray) x)).toNat
def rem (L n d : Nat) : Nat → Int
  | 0 => 0
  | m + 1 => ow L n d (5 - m) + rem L n d m
theorem rem_step (L n d x : Nat) (h : x < 6) : rem L n d (6 - x) = ow L n d x + rem L n d (6 - (x + 1)) := by
  obtain ⟨m, hm⟩ : ∃ m, 6 - x = m + 1 := ⟨5 - x, by omega⟩
  rw [hm, show 6 - (x + 1) = m by omega, rem, show 5 - m = x by omega]
theorem rem_all (L n d : Nat) (h : d ≤ L) : wy L (n + 1) d = rem L n d 6 := by
  have s0 : bt (⟨#[40, 91, 41, 93, 97, 98]⟩ : ByteArray) ((0 : Nat) : Int) = 40 := by decide
  have s1 : bt (⟨#[40, 91, 41, 93, 97, 98]⟩ : ByteArray) ((1 : Nat) : Int) = 91 := by decide
  have s2 : bt (⟨#[40, 91, 41, 93, 97, 98]⟩ : ByteArray) ((2 : Nat) : Int) = 41 := by decide
  have s3 : bt (⟨#[40, 91, 41, 93, 97, 98]⟩ : ByteArray) ((3 : Nat) : Int) = 93 := by decide
  have s4 : bt (⟨#[40, 91, 41, 93, 97, 98]⟩ : ByteArray) ((4 : Nat) : Int) = 97 := by decide
  have s5 : bt (⟨#[40, 91, 41, 93, 97, 98]⟩ : ByteArray) ((5 : Nat) : Int) = 98 := by decide
  have o0 : ow L n d 0 = wy L n (d + 1) := by
    unfold ow; rw [s0, show nx d 40 = (d : Int) + 1 from rfl, if_neg (by omega)]; congr 1
  have o1 : ow L n d 1 = wy L n (d + 1) := by
    unfold ow; rw [s1, show nx d 91 = (d : Int) + 1 from rfl, if_neg (by omega)]; congr 1
  have o2 : ow L n d 2 = if d = 0 then 0 else wy L n (d - 1) := by
    unfold ow; rw [s2, show nx d 41 = (d : Int) - 1 from rfl]
    by_cases h0 : d = 0
    · rw [if_pos h0, if_pos (by omega)]
    · rw [if_neg h0, if_neg (by omega)]; congr 1; omega
  have o3 : ow L n d 3 = if d = 0 then 0 else wy L n (d - 1) := by
    unfold ow; rw [s3, show nx d 93 = (d : Int) - 1 from rfl]
    by_cases h0 : d = 0
    · rw [if_pos h0, if_pos (by omega)]
    · rw [if_neg h0, if_neg (by omega)]; congr 1; omega
  have o4 : ow L n d 4 = wy L n d := by
    unfold ow; rw [s4, show nx d 97 = (d : Int) from rfl, if_neg (by omega)]; congr 1
  have o5 : ow L n d 5 = wy L n d := by
    unfold ow; rw [s5, show nx d 98 = (d : Int) from rfl, if_neg (by omega)]; congr 1
  simp only [rem, Nat.reduceSub, o0, o1, o2, o3, o4, o5]
  conv => lhs; unfold wy
  rw [if_pos h]
  by_cases h0 : d = 0
  · simp only [if_pos h0]; omega
  · simp only [if_neg h0]; omega
theorem next_eq (d : Nat) (hd : d ≤ 100) (c : Int) : spec_l01Next.f d c = some (nx d c) := by
  have f1 : wrap64 ((d : Int) + 1) = (d : Int) + 1 := w64 (by omega) (by omega)
  have f2 : wrap64 ((d : Int) - 1) = (d : Int) - 1 := w64 (by omega) (by omega)
  unfold spec_l01Next.f nx
  simp only [sCall_eq, sReturn_eq, Option.bind_some, f1, f2]
  split
  · rfl
  · split <;> rfl
theorem sym_of (x : Nat) (h : x < 6) : bt (⟨#[40, 91, 41, 93, 97, 98]⟩ : ByteArray) x = 40 ∨ bt (⟨#[40, 91, 41, 93, 97, 98]⟩ : ByteArray) x = 91 ∨ bt (⟨#[40, 91, 41, 93, 97, 98]⟩ : ByteArray) x = 41 ∨ bt (⟨#[40, 91, 41, 93, 97, 98]⟩ : ByteArray) x = 93 ∨ bt (⟨#[40, 91, 41, 93, 97, 98]⟩ : ByteArray) x = 97 ∨ bt (⟨#[40, 91, 41, 93, 97, 98]⟩ : ByteArray) x = 98 := by
  have : x = 0 ∨ x = 1 ∨ x = 2 ∨ x = 3 ∨ x = 4 ∨ x = 5 := by omega
  rcases this with rfl | rfl | rfl | rfl | rfl | rfl
  · left; decide
  · right; left; decide
  · right; right; left; decide
  · right; right; right; left; decide
  · right; right; right; right; left; decide
  · right; right; right; right; right; decide
theorem matchedAt_loop (L : Nat) (hL : L ≤ 20) : ∀ n, ∀ (l : List Int) (d : Nat) (q : Int), Opn l d → d + n ≤ L → l.length + n = L → 0 ≤ q → q < wy L n d →
    ∃ w, Ev (fun k => spec_MatchedAt.l0 k q (tab L (L + 1)) l d n) (w, 0) ∧ okw w = true ∧ mtc w = true ∧ w.size ≤ 20 := by
  intro n
  induction n with
  | zero =>
    intro l d q ho _ hl h0 h1
    have hd : d = 0 := by
      unfold wy at h1
      by_cases h : d = 0
      · exact h
      · rw [if_neg h] at h1; omega
    subst hd
    refine ⟨strOfNums l, Ev.succ ?_, okw_syms ho.1 (by omega), opn_mtc ho, by rw [sn_size]; omega⟩
    simp only [spec_MatchedAt.l0, show ¬ (((0 : Nat) : Int) > 0) by decide, if_false]
    exact Ev.now _
  | succ n ih =>
    intro l d q ho hd hl h0 h1
    have f1 : wrap64 (((n + 1 : Nat) : Int) - 1) = (n : Int) := by rw [w64 (by omega) (by omega)]; push_cast; omega
    have inner : ∀ x, x ≤ 6 → ∀ q : Int, 0 ≤ q → q < rem L n d (6 - x) → ∃ w, Ev (fun k => spec_MatchedAt.l1 k q (tab L (L + 1)) l d ((n + 1 : Nat) : Int) x) (w, 0) ∧ okw w = true ∧ mtc w = true ∧ w.size ≤ 20 := by
      refine down 6 ?_ ?_
      · intro q q0 q1
        simp only [Nat.sub_self, rem] at q1
        omega
      · intro x hx ihx q q0 q1
        rw [rem_step L n d x hx] at q1
        have hs := sym_of x hx
        have hn2 : nx d (bt (⟨#[40, 91, 41, 93, 97, 98]⟩ : ByteArray) x) ≤ (d : Int) + 1 := by
          unfold nx
          split
          · omega
          · split <;> omega
        by_cases hneg : nx d (bt (⟨#[40, 91, 41, 93, 97, 98]⟩ : ByteArray) x) < 0
        · have ho0 : ow L n d x = 0 := by unfold ow; rw [if_pos hneg]
          obtain ⟨w, hw, r⟩ := ihx q q0 (by omega)
          refine ⟨w, Ev.succ ?_, r⟩
          simp only [spec_MatchedAt.l1, if_pos (show (x : Int) < 6 by omega), if_pos (i0 x), next_eq d (by omega), Option.bind_some, if_pos hneg, up1 x (by omega)]
          exact hw
        · obtain ⟨e, he⟩ := Int.eq_ofNat_of_zero_le (show 0 ≤ nx d (bt (⟨#[40, 91, 41, 93, 97, 98]⟩ : ByteArray) x) by omega)
          have ho1 : ow L n d x = wy L n e := by
            unfold ow; rw [if_neg hneg, he, Int.toNat_natCast]
          have er : rd (rowW L n) (e : Int) = wy L n e := rd_range _ _ _ (by omega)
          have g1 : (e : Int) < ((rowW L n).length : Int) := by rw [rowW_len]; omega
          by_cases hq : q < wy L n e
          · obtain ⟨w, hw, r⟩ := ih (l ++ [bt (⟨#[40, 91, 41, 93, 97, 98]⟩ : ByteArray) x]) e q (opn_snoc ho hs he) (by omega) (by simp; omega) q0 hq
            refine ⟨w, Ev.succ ?_, r⟩
            simp only [spec_MatchedAt.l1, if_pos (show (x : Int) < 6 by omega), if_pos (i0 x), next_eq d (by omega), Option.bind_some, if_neg hneg, f1, if_pos (i0 n), if_pos (show (n : Int) < ((tab L (L + 1)).length : Int) by rw [tab_len]; omega), he, if_pos (i0 e), rdL_tab L (L + 1) n (by omega), if_pos g1, er, if_pos hq, if_pos (show l.length < 140737488355328 by omega)]
            simp only [if_neg (show ¬ (e : Int) < 0 by omega)]
            exact hw
          · have hb := wy_small L n e (by omega)
            have f2 : wrap64 (q - wy L n e) = q - wy L n e := by
              have hq2 : q < 4611686018427387904 := by
                have hr : ∀ m, m ≤ 6 → rem L n d m ≤ m * 3656158440062976 := by
                  intro m
                  induction m with
                  | zero => intro _; simp [rem]
                  | succ m ihm =>
                    intro hm
                    have := ihm (by omega)
                    have h5 : ow L n d (5 - m) ≤ 3656158440062976 := by
                      unfold ow
                      split
                      · omega
                      · exact (wy_small L n _ (by omega)).2
                    simp only [rem]
                    push_cast
                    omega
                have := hr (6 - (x + 1)) (by omega)
                have h6 : ((6 - (x + 1) : Nat) : Int) ≤ 6 := by omega
                omega
              exact w64 (by omega) (by omega)
            obtain ⟨w, hw, r⟩ := ihx (q - wy L n e) (by omega) (by omega)
            refine ⟨w, Ev.succ ?_, r⟩
            simp only [spec_MatchedAt.l1, if_pos (show (x : Int) < 6 by omega), if_pos (i0 x), next_eq d (by omega), Option.bind_some, if_neg hneg, f1, if_pos (i0 n), if_pos (show (n : Int) < ((tab L (L + 1)).length : Int) by rw [tab_len]; omega), he, if_pos (i0 e), rdL_tab L (L + 1) n (by omega), if_pos g1, er, if_neg hq, f2, up1 x (by omega)]
            simp only [if_neg (show ¬ (e : Int) < 0 by omega)]
            exact hw
    rw [rem_all L n d (by omega)] at h1
    obtain ⟨w, hw, r⟩ := inner 0 (by omega) q h0 h1
    refine ⟨w, Ev.succ ?_, r⟩
    simp only [spec_MatchedAt.l0, if_pos (show ((n + 1 : Nat) : Int) > 0 by omega)]
    exact hw
/-- Whatever the number: a matched word, or the empty one. -/
theorem matchedAt_ok (L : Nat) (hL : L ≤ 20) (q : Int) : ∃ r : ByteArray × Int, Ev (fun k => spec_MatchedAt.f k L q) r ∧ okw r.1 = true ∧ mtc r.1 = true ∧ r.1.size ≤ 20 := by
  have e0 : rd (rowW L L) 0 = wy L L 0 := rd_range _ _ 0 (by omega)
  have hb := wy_small L L 0 hL
  have f1 : wrap64 (wy L L 0 - 1) = wy L L 0 - 1 := w64 (by omega) (by omega)
  by_cases h : 0 ≤ q ∧ q ≤ wy L L 0 - 1
  · obtain ⟨w, hw, r⟩ := matchedAt_loop L hL L [] 0 q ⟨fun x hx => by simp at hx, rfl, rfl⟩ (by omega) (by simp) h.1 (by omega)
    refine ⟨(w, 0), ?_, r⟩
    unfold spec_MatchedAt.f
    simp only [in_eq, Option.bind_some, decide_eq_true (show (0 : Int) ≤ (L : Int) ∧ (L : Int) ≤ 20 by omega), if_true]
    refine Ev.bind (ways_ev L hL) ?_
    simp only [if_pos (i0 L), if_pos (show (L : Int) < ((tab L (L + 1)).length : Int) by rw [tab_len]; omega), rdL_tab L (L + 1) L (by omega), if_pos (show (0 : Int) < ((rowW L L).length : Int) by rw [rowW_len]; omega), e0, f1, decide_eq_true h, if_true]
    exact hw
  · refine ⟨(⟨#[]⟩, 2), ?_, by decide, by decide, by decide⟩
    unfold spec_MatchedAt.f
    simp only [in_eq, Option.bind_some, decide_eq_true (show (0 : Int) ≤ (L : Int) ∧ (L : Int) ≤ 20 by omega), if_true]
    refine Ev.bind (ways_ev L hL) ?_
    simp only [if_pos (i0 L), if_pos (show (L : Int) < ((tab L (L + 1)).length : Int) by rw [tab_len]; omega), rdL_tab L (L + 1) L (by omega), if_pos (show (0 : Int) < ((rowW L L).length : Int) by rw [rowW_len]; omega), e0, f1, decide_eq_false h, Bool.false_eq_true, if_false]
    exact Ev.now _
theorem pick_any {s : List Int} (hs : Bytes s) (at_ sd n : Int) (h0 : 0 ≤ at_) (h1 : at_ ≤ 1000000) : ∃ v at2 sd', spec_l00Src_pick.f s at_ sd n = some (v, at2, sd') := by
  unfold spec_l00Src_pick.f
  by_cases h : n ≤ 1
  · rw [if_pos h]; exact ⟨_, _, _, rfl⟩
  · obtain ⟨v, sd', e, v0, v1⟩ := next_ok hs at_ sd h0 (by omega)
    rw [if_neg h, e]
    simp only [Option.bind_some]
    split
    · obtain ⟨v2, sd2, e2, _, _⟩ := next_ok hs (at_ + 1) sd' (by omega) (by omega)
      rw [e2]
      simp only [Option.bind_some]
      rw [if_neg (by omega)]
      exact ⟨_, _, _, rfl⟩
    · rw [if_neg (by omega)]
      exact ⟨_, _, _, rfl⟩
/-- A drawn matched word is one. -/
theorem a2matched_m (l : List Int) (hs : Bytes l) (M : Nat) (hM : M ≤ 12) : ∃ w, Ev (fun k => spec_A2Matched.f k l M) w ∧ okw w = true ∧ mtc w = true ∧ w.size ≤ 20 := by
  obtain ⟨v, at2, sd2, e, v0, v1, a1, a2⟩ := pick_ok hs 0 0 ((M : Int) + 1) (by omega) (by omega) (by omega) (by omega)
  obtain ⟨n, rfl⟩ := Int.eq_ofNat_of_zero_le v0
  have er : rd (rowW M n) 0 = wy M n 0 := rd_range _ _ 0 (by omega)
  obtain ⟨q, at3, sd3, e2⟩ := pick_any hs at2 sd2 (wy M n 0) (by omega) (by omega)
  obtain ⟨r, hr, r2⟩ := matchedAt_ok n (by omega) q
  have h1 : (n : Int) < ((tab M (M + 1)).length : Int) := by rw [tab_len]; omega
  have h2 : n < M + 1 := by omega
  have hmin : spec_l00Min.f (M : Int) 12 = some (M : Int) := by
    unfold spec_l00Min.f
    split
    · rfl
    · congr 1; omega
  have f1 : wrap64 ((M : Int) + 1) = (M : Int) + 1 := by rw [w64 (by omega) (by omega)]
  refine ⟨r.1, ?_, r2⟩
  unfold spec_A2Matched.f spec_l00From.f
  simp only [Option.bind_some]
  refine Ev.bind (a := (r.1, at3, sd3)) ?_ (Ev.now _)
  have hm2 : Ev (fun _ => spec_l00Min.f (M : Int) 12) (M : Int) := by rw [hmin]; exact Ev.now _
  have e0 : Ev (fun _ => spec_l00Src_pick.f l 0 0 ((M : Int) + 1)) ((n : Int), at2, sd2) := by rw [e]; exact Ev.now _
  unfold spec_l01MatchedDrawn.f
  refine Ev.bind hm2 (Ev.bind (ways_ev M (by clear f1; omega)) (Ev.bind hm2 ?_))
  rw [f1]
  refine Ev.bind e0 ?_
  simp only [Option.bind_some, if_pos (i0 n), if_pos h1, rdL_tab M (M + 1) n h2, if_pos (show (0 : Int) < ((rowW M n).length : Int) by rw [rowW_len]; clear f1; omega), er, e2]
  exact Ev.bind hr (Ev.now _)
end Go.Proofs.Ytolmmfcofbhagaa.Br
namespace Go.Proofs.Ytolmmfcofbhagaa.Br
open Go.RowKit Go.Proofs.Ytolmmfcofbhagaa.PC Go.Proofs.YtolmmfcofbhagaaW.PrintWords Go.Proofs.YtolmmfcofbhagaaW.PrintLast Go.Proofs.YtolmmfcofbhagaaW.PrintMore Go.Proofs.Ytolmmfcofbhagaa.Th
set_option linter.unusedVariables false
set_option linter.unusedSimpArgs false
set_option linter.unusedSectionVars false
def oth (b : Int) : Int := if b = 40 then 41 else 93
theorem isC_or {b : Int} (h : isC b = true) : b = 40 ∨ b = 91 := by unfold isC at h; simpa using h
theorem iRet_eq {b : Int} (h : isC b = true) : impl_returnFor.f b = some (oth b) := by
  rcases isC_or h with rfl | rfl <;> decide +kernel
def rp (n : Nat) : ByteArray := strOfNums (List.replicate n 40)
theorem rp_size (n : Nat) : (rp n).size = n := by unfold rp; rw [sn_size, List.length_replicate]
theorem rp_bt (n j : Nat) (h : j < n) : bt (rp n) j = 40 := by
  unfold rp
  rw [sn_bt (fun x hx => by rw [List.eq_of_mem_replicate hx]; omega)]
  unfold g
  rw [List.getD_eq_getElem?_getD, List.getElem?_replicate, if_pos h]
  rfl
/-- What stands behind: the returns for all pending calls but the first m. -/
def bk (C : List Int) (m : Nat) : List Int := ((C.drop m).reverse).map oth
theorem bk_end (C : List Int) (m : Nat) (h : C.length ≤ m) : bk C m = [] := by unfold bk; rw [List.drop_of_length_le h]; rfl
theorem bk_step (C : List Int) (m : Nat) (h : m < C.length) : bk C m = bk C (m + 1) ++ [oth (C.getD m 0)] := by
  unfold bk
  rw [List.drop_eq_getElem_cons h, List.reverse_cons, List.map_append, List.getD_eq_getElem?_getD, List.getElem?_eq_getElem h]
  rfl
theorem bk_len (C : List Int) (m : Nat) : (bk C m).length = C.length - m := by unfold bk; simp
/-- What CompleteWord tells. -/
def compW (a : ByteArray) : ByteArray := (rp (st (bt a) a.size).r.length ++ a) ++ strOfNums (bk (at_ a (st (bt a) a.size).c) 0)
def compR (a : ByteArray) : ByteArray × Int := if okw a = true then (if ((compW a).size : Int) > 60 then ((⟨#[]⟩ : ByteArray), 3) else (compW a, 0)) else ((⟨#[]⟩ : ByteArray), 1)
theorem at_len (a : ByteArray) (l : List Int) : (at_ a l).length = l.length := by unfold at_; simp
theorem pend_C (a : ByteArray) : ∀ x ∈ at_ a (st (bt a) a.size).c, isC x = true := by
  intro x hx
  obtain ⟨y, hy, rfl⟩ := List.mem_map.1 hx
  obtain ⟨y0, _⟩ := (basic (bt a) a.size).hc y hy
  obtain ⟨j, rfl⟩ := Int.eq_ofNat_of_zero_le y0
  exact (inv (bt a) a.size).bc j hy
theorem repeat_eq (n : Nat) (h : n ≤ 60) : strings_Repeat.f (⟨#[40]⟩ : ByteArray) (n : Int) = some (rp n) := by
  have hs : (⟨#[40]⟩ : ByteArray).size = 1 := rfl
  unfold strings_Repeat.f
  rw [if_pos ⟨⟨by omega, by omega⟩, by rw [hs, Int.toNat_natCast]; omega⟩, Int.toNat_natCast]
  congr 1
  have : ∀ n : Nat, Lib.repeatL [40] n = List.replicate n (40 : UInt8) := by
    intro n
    have := Lib.repeatL_replicate (40 : UInt8) 1 n
    simpa using this
  show (⟨(Lib.repeatL [40] n).toArray⟩ : ByteArray) = _
  rw [this]
  unfold rp strOfNums
  rw [List.map_replicate]
  rfl
theorem iComp_l0 (a : ByteArray) (p r c d q : List Int) (hc : ∀ x ∈ c, 0 ≤ x ∧ x < a.size) (hC : ∀ x ∈ at_ a c, isC x = true) (lr : r.length ≤ 60) (lc : c.length ≤ 60) (la : a.size ≤ 60) (res : ByteArray × Int)
    (hres : Ev (fun k => impl_orLimit.f k ((rp r.length ++ a) ++ strOfNums (bk (at_ a c) 0))) res) :
    ∀ m, m ≤ c.length → Ev (fun k => impl_CompleteWord.l0 k a (bk (at_ a c) m) ((m : Int) - 1) p r c d q) res := by
  intro m
  induction m with
  | zero =>
    intro _
    have s1 : (rp r.length).size + a.size ≤ 9223372036854775807 := by rw [rp_size]; omega
    have s2 : (rp r.length ++ a).size + (strOfNums (bk (at_ a c) 0)).size ≤ 9223372036854775807 := by rw [ByteArray.size_append, rp_size, sn_size, bk_len, at_len]; omega
    refine Ev.succ ?_
    simp only [impl_CompleteWord.l0, show ¬ (((0 : Nat) : Int) - 1 ≥ 0) by decide, if_false, repeat_eq _ lr, Option.bind_some, if_pos s1, if_pos s2]
    exact Ev.bind hres (Ev.now _)
  | succ m ih =>
    intro hm
    have e0 : ((m + 1 : Nat) : Int) - 1 = (m : Int) := by omega
    have c3 : (m : Int) ≥ 0 := by omega
    have c2 : (m : Int) < (c.length : Int) := by omega
    have er : rd c m = c.getD m 0 := by unfold rd; rw [Int.toNat_natCast]
    have hmem := getD_mem c m 0 (by omega)
    have hx := hc _ hmem
    have hg : (at_ a c).getD m 0 = bt a (c.getD m 0) := by
      unfold at_
      rw [List.getD_eq_getElem?_getD, List.getElem?_map, List.getD_eq_getElem?_getD, List.getElem?_eq_getElem (by omega)]
      rfl
    have hcb : isC (bt a (c.getD m 0)) = true := hC _ (by unfold at_; exact List.mem_map.2 ⟨_, hmem, rfl⟩)
    have hl : (bk (at_ a c) (m + 1)).length < 140737488355328 := by rw [bk_len, at_len]; omega
    have nx := ih (by omega)
    have hb := bk_step (at_ a c) m (by rw [at_len]; omega)
    rw [hg] at hb
    have f1 : wrap64 ((m : Int) - 1) = (m : Int) - 1 := w64 (by omega) (by omega)
    refine Ev.succ ?_
    rw [e0]
    simp only [impl_CompleteWord.l0, if_pos c3, if_pos (i0 m), if_pos c2, er, if_pos hx.1, if_pos hx.2, iRet_eq hcb, Option.bind_some, if_pos hl, f1]
    rw [hb] at nx
    exact nx
theorem comp_okw {a : ByteArray} (h : okw a = true) : okw (compW a) = decide ((compW a).size ≤ 60) := by
  by_cases h2 : (compW a).size ≤ 60
  · rw [decide_eq_true h2, okw_iff]
    refine ⟨fun j hj => ?_, h2⟩
    unfold compW at hj ⊢
    rw [bt_append]
    split
    · rename_i h3
      rw [bt_append, rp_size]
      split
      · rename_i h4
        rw [rp_bt _ _ h4]; decide
      · rename_i h4
        rw [ByteArray.size_append, rp_size] at h3
        exact okw_sym h (by omega)
    · rename_i h3
      rw [ByteArray.size_append, sn_size] at hj
      have hby : ∀ x ∈ bk (at_ a (st (bt a) a.size).c) 0, x = 41 ∨ x = 93 := by
        intro x hx
        unfold bk at hx
        obtain ⟨y, _, rfl⟩ := List.mem_map.1 hx
        unfold oth
        split
        · exact Or.inl rfl
        · exact Or.inr rfl
      rw [sn_bt (fun x hx => by rcases hby x hx with rfl | rfl <;> omega)]
      have := hby _ (getD_mem (bk (at_ a (st (bt a) a.size).c) 0) (j - ((rp (st (bt a) a.size).r.length ++ a).size)) 0 (by omega))
      unfold g
      rcases this with e | e <;> rw [e] <;> decide
  · rw [decide_eq_false h2]
    cases e : okw (compW a)
    · rfl
    · exact absurd (okw_size e) h2
theorem iComplete_ev (a : ByteArray) (hn : a.size ≤ 1048576) : Ev (fun k => impl_CompleteWord.f k a) (compR a) := by
  unfold impl_CompleteWord.f compR
  refine Ev.bind (valid_ev a hn) ?_
  by_cases h : okw a = true
  · simp only [h, if_true]
    have hs := okw_size h
    have B := basic (bt a) a.size
    have lr := B.lr
    have lc := B.lc
    have hW : (compW a).size ≤ 1048576 := by
      unfold compW
      rw [ByteArray.size_append, ByteArray.size_append, rp_size, sn_size, bk_len, at_len]; omega
    refine Ev.bind (match_ev a hn) ?_
    have f1 : wrap64 (((st (bt a) a.size).c.length : Int) - 1) = ((st (bt a) a.size).c.length : Int) - 1 := w64 (by omega) (by omega)
    have hres : Ev (fun k => impl_orLimit.f k (compW a)) (if ((compW a).size : Int) > 60 then ((⟨#[]⟩ : ByteArray), (3 : Int)) else (compW a, 0)) := by
      clear f1
      unfold impl_orLimit.f
      refine Ev.bind (valid_ev _ hW) ?_
      rw [comp_okw h]
      by_cases h2 : (compW a).size ≤ 60
      · rw [decide_eq_true h2, if_neg (show ¬ ((compW a).size : Int) > 60 by omega)]
        simp only [if_true]
        exact Ev.now _
      · rw [decide_eq_false h2, if_pos (show ((compW a).size : Int) > 60 by omega)]
        simp only [Bool.false_eq_true, if_false]
        exact Ev.now _
    have hl := iComp_l0 a (st (bt a) a.size).p (st (bt a) a.size).r (st (bt a) a.size).c (st (bt a) a.size).d (st (bt a) a.size).q B.hc (pend_C a) (by clear f1; omega) (by clear f1; omega) hs _ hres (st (bt a) a.size).c.length (Nat.le_refl _)
    rw [bk_end _ _ (by rw [at_len]; exact Nat.le_refl _)] at hl
    simp only [f1]
    exact hl
  · simp only [h, if_false]
    exact Ev.now _
end Go.Proofs.Ytolmmfcofbhagaa.Br
namespace Go.Proofs.Ytolmmfcofbhagaa.Th

theorem dropLast_app {α : Type} (l m : List α) (h : m ≠ []) : (l ++ m).dropLast = l ++ m.dropLast := by
  rw [List.dropLast_append_of_ne_nil h]
/-- A matched segment, read behind whatever is open: the stack grows by its own open calls alone. -/
theorem segment (b : Int → Int) (i n : Nat) (hr : (st (fun j => b (i + j)) n).r = []) : ∀ m, m ≤ n → (st b (i + m)).c = (st b i).c ++ (st (fun j => b (i + j)) m).c.map (· + (i : Int)) ∧ (st b (i + m)).r = (st b i).r
  | 0, _ => by simp [st]
  | m + 1, hm => by
    obtain ⟨h1, h2⟩ := segment b i n hr m (by omega)
    have hrm := r_nil hr (show m ≤ n by omega)
    have hr1 := r_nil hr (show m + 1 ≤ n by omega)
    rw [st_succ, step_r, hrm] at hr1
    have e : ((i + m : Nat) : Int) = (i : Int) + (m : Int) := by push_cast; rfl
    rw [← Nat.add_assoc, st_succ, st_succ, step_c, step_c, step_r, h1, h2, e]
    by_cases hR : isR (b ((i : Int) + (m : Int))) = true
    · have hne : (st (fun j => b (i + j)) m).c ≠ [] := fun h0 => by
        rw [if_pos ⟨hR, h0⟩] at hr1
        simp at hr1
      have hne2 : (st (fun j => b (i + j)) m).c.map (· + (i : Int)) ≠ [] := fun h0 => hne (List.map_eq_nil_iff.1 h0)
      rw [if_pos hR, if_pos hR, dropLast_app _ _ hne2, List.map_dropLast]
      exact ⟨rfl, by rw [if_neg (fun h => hne2 (List.append_eq_nil_iff.1 h.2).2)]⟩
    · refine ⟨?_, if_neg (fun h => hR h.1)⟩
      rw [if_neg hR, if_neg hR]
      by_cases hC : isC (b ((i : Int) + (m : Int))) = true
      · rw [if_pos hC, if_pos hC]
        simp; omega
      · rw [if_neg hC, if_neg hC]
theorem p_old (s : St) (i b : Int) (j : Nat) (hj : j < s.p.length) : g (step s i b).p j = if isR b = true ∧ s.c ≠ [] ∧ (top s.c).toNat = j then i else g s.p j := by
  unfold step
  by_cases hR : isR b = true
  · rw [if_pos hR]
    by_cases hc : s.c = []
    · rw [if_pos hc, if_neg (fun h => h.2.1 hc)]
      exact g_append_left hj
    · rw [if_neg hc]
      show g (s.p.set (top s.c).toNat i ++ [top s.c]) j = _
      rw [g_append_left (by simp; exact hj), g_set]
      by_cases ht : (top s.c).toNat = j
      · rw [if_pos ⟨ht, by omega⟩, if_pos ⟨hR, hc, ht⟩]
      · rw [if_neg (fun h => ht h.1), if_neg (fun h => ht h.2.2)]
  · have e : (if isR b = true ∧ s.c ≠ [] ∧ (top s.c).toNat = j then i else g s.p j) = g s.p j := if_neg (fun h => hR h.1)
    rw [e, if_neg hR]
    split
    · exact g_append_left hj
    · exact g_append_left hj
theorem p_new (s : St) (i b : Int) : g (step s i b).p s.p.length = if isR b = true then (if s.c = [] then -2 else top s.c) else if isC b = true then -2 else -1 := by
  unfold step
  by_cases hR : isR b = true
  · rw [if_pos hR, if_pos hR]
    by_cases hc : s.c = []
    · rw [if_pos hc, if_pos hc]; exact g_append_end rfl
    · rw [if_neg hc, if_neg hc]
      exact g_append_end (by simp)
  · rw [if_neg hR, if_neg hR]
    split
    · exact g_append_end rfl
    · exact g_append_end rfl
/-- Where a place, or a partner, comes to lie when n symbols are put in at i. -/
def put (i n : Nat) (v : Int) : Int := if v ≥ i then v + n else v
theorem top_map (l : List Int) (f : Int → Int) (h : l ≠ []) : top (l.map f) = f (top l) := by
  unfold top
  rw [List.getLast?_map, List.getLast?_eq_some_getLast h]
  rfl
/-- Behind what is put in, the reading goes on as before, but for the places. -/
theorem behind (b b' : Int → Int) (i n : Nat) (hpre : ∀ j : Nat, j < i → b' j = b j) (hpost : ∀ j : Nat, i ≤ j → b' ((j + n : Nat) : Int) = b j)
    (hc : (st b' (i + n)).c = (st b' i).c) (hr : (st b' (i + n)).r = (st b' i).r) (hp : ∀ j : Nat, j < i → g (st b' (i + n)).p j = g (st b' i).p j) :
    ∀ k, (st b' (i + k + n)).c = (st b (i + k)).c.map (put i n) ∧ (st b' (i + k + n)).r = (st b (i + k)).r.map (put i n) ∧
      (∀ j : Nat, j < i → g (st b' (i + k + n)).p j = put i n (g (st b (i + k)).p j)) ∧ (∀ j : Nat, i ≤ j → j < i + k → g (st b' (i + k + n)).p (j + n) = put i n (g (st b (i + k)).p j)) := by
  have e0 : st b' i = st b i := st_congr i hpre
  have low : ∀ v : Int, v < i → put i n v = v := fun v h => by unfold put; rw [if_neg (by omega)]
  have B0 := basic b i
  have hpid : ∀ l : List Int, (∀ x ∈ l, x < i) → l.map (put i n) = l := by
    intro l hl
    have : l.map (put i n) = l.map id := List.map_congr_left fun x hx => low x (hl x hx)
    rw [this, List.map_id]
  intro k
  induction k with
  | zero =>
    rw [Nat.add_zero, hc, hr, e0]
    refine ⟨(hpid _ fun x hx => (B0.hc x hx).2).symm, (hpid _ fun x hx => (B0.hr x hx).2).symm, fun j hj => ?_, fun j h1 h2 => by omega⟩
    rw [hp j hj, e0]
    have I := inv b i
    by_cases h0 : 0 ≤ g (st b i).p j
    · rw [low _ (I.pos j hj h0).1]
    · rw [low _ (by omega)]
  | succ k ih =>
    obtain ⟨h1, h2, h3, h4⟩ := ih
    have eb : b' ((i + k + n : Nat) : Int) = b ((i + k : Nat) : Int) := hpost (i + k) (by omega)
    have es : i + (k + 1) + n = (i + k + n) + 1 := by omega
    have es2 : i + (k + 1) = (i + k) + 1 := by omega
    rw [es, es2, st_succ, st_succ, step_c, step_c, step_r, step_r, eb, h1, h2]
    have B := basic b (i + k)
    have B' := basic b' (i + k + n)
    have lp := B.lp
    have lp' := B'.lp
    have pe : put i n ((i + k : Nat) : Int) = ((i + k + n : Nat) : Int) := by unfold put; rw [if_pos (by omega)]; push_cast; omega
    have cn : ((st b (i + k)).c.map (put i n) = []) = ((st b (i + k)).c = []) := propext List.map_eq_nil_iff
    have tt : (st b (i + k)).c ≠ [] → top (st b' (i + k + n)).c = put i n (top (st b (i + k)).c) := fun h => by rw [h1, top_map _ _ h]
    have tr : ∀ h : (st b (i + k)).c ≠ [], 0 ≤ top (st b (i + k)).c ∧ top (st b (i + k)).c < ((i + k : Nat) : Int) := fun h => B.hc _ (top_mem h)
    refine ⟨?_, ?_, fun j hj => ?_, fun j hj1 hj2 => ?_⟩
    · by_cases hR : isR (b ((i + k : Nat) : Int)) = true
      · rw [if_pos hR, if_pos hR, List.map_dropLast]
      · rw [if_neg hR, if_neg hR]
        by_cases hC : isC (b ((i + k : Nat) : Int)) = true
        · rw [if_pos hC, if_pos hC, List.map_append, List.map_singleton, pe]
        · rw [if_neg hC, if_neg hC]
    · by_cases hq : isR (b ((i + k : Nat) : Int)) = true ∧ (st b (i + k)).c = []
      · rw [if_pos ⟨hq.1, by rw [cn]; exact hq.2⟩, if_pos hq, List.map_append, List.map_singleton, pe]
      · rw [if_neg (fun h => hq ⟨h.1, by rw [cn] at h; exact h.2⟩), if_neg hq]
    · rw [p_old _ _ _ j (by omega), p_old _ _ _ j (by omega), h3 j hj]
      by_cases hR : isR (b ((i + k : Nat) : Int)) = true
      · by_cases hne : (st b (i + k)).c = []
        · rw [if_neg (fun h => h.2.1 (by rw [h1, hne]; rfl)), if_neg (fun h => h.2.1 hne)]
        · have t := tr hne
          by_cases ht : (top (st b (i + k)).c).toNat = j
          · rw [if_pos ⟨hR, fun h => hne (by rw [h1] at h; exact List.map_eq_nil_iff.1 h), by rw [tt hne, low _ (by omega)]; exact ht⟩, if_pos ⟨hR, hne, ht⟩, pe]
          · rw [if_neg (fun h => ht (by
                have := h.2.2
                rw [tt hne] at this
                unfold put at this
                split at this <;> omega)), if_neg (fun h => ht h.2.2)]
      · rw [if_neg (fun h => hR h.1), if_neg (fun h => hR h.1)]
    · by_cases hlast : j = i + k
      · subst hlast
        have e1 := p_new (st b' (i + k + n)) ((i + k + n : Nat) : Int) (b ((i + k : Nat) : Int))
        rw [lp'] at e1
        have e2 := p_new (st b (i + k)) ((i + k : Nat) : Int) (b ((i + k : Nat) : Int))
        rw [lp] at e2
        rw [e1, e2]
        by_cases hR : isR (b ((i + k : Nat) : Int)) = true
        · rw [if_pos hR, if_pos hR]
          by_cases hne : (st b (i + k)).c = []
          · rw [if_pos (by rw [h1, hne]; rfl), if_pos hne, low _ (by omega)]
          · rw [if_neg (fun h => hne (by rw [h1] at h; exact List.map_eq_nil_iff.1 h)), if_neg hne, tt hne]
        · rw [if_neg hR, if_neg hR]
          split
          · rw [low _ (by omega)]
          · rw [low _ (by omega)]
      · have hj3 : j < i + k := by omega
        rw [p_old _ _ _ (j + n) (by omega), p_old _ _ _ j (by omega), h4 j hj1 hj3]
        by_cases hR : isR (b ((i + k : Nat) : Int)) = true
        · by_cases hne : (st b (i + k)).c = []
          · rw [if_neg (fun h => h.2.1 (by rw [h1, hne]; rfl)), if_neg (fun h => h.2.1 hne)]
          · have t := tr hne
            by_cases ht : (top (st b (i + k)).c).toNat = j
            · rw [if_pos ⟨hR, fun h => hne (by rw [h1] at h; exact List.map_eq_nil_iff.1 h), by rw [tt hne]; unfold put; rw [if_pos (by omega)]; omega⟩, if_pos ⟨hR, hne, ht⟩, pe]
            · rw [if_neg (fun h => ht (by
                  have := h.2.2
                  rw [tt hne] at this
                  unfold put at this
                  split at this <;> omega)), if_neg (fun h => ht h.2.2)]
        · rw [if_neg (fun h => hR h.1), if_neg (fun h => hR h.1)]
/-- Within a matched segment no older place gets a partner. -/
theorem segment_p (b : Int → Int) (i n : Nat) (hr : (st (fun j => b (i + j)) n).r = []) (j : Nat) (hj : j < i) : ∀ m, m ≤ n → g (st b (i + m)).p j = g (st b i).p j
  | 0, _ => rfl
  | m + 1, hm => by
    have ih := segment_p b i n hr j hj m (by omega)
    obtain ⟨h1, h2⟩ := segment b i n hr m (by omega)
    have hrm := r_nil hr (show m ≤ n by omega)
    have hr1 := r_nil hr (show m + 1 ≤ n by omega)
    rw [st_succ, step_r, hrm] at hr1
    have lp := (basic b (i + m)).lp
    rw [← Nat.add_assoc, st_succ, p_old _ _ _ j (by omega), ih]
    have e : ((i + m : Nat) : Int) = (i : Int) + (m : Int) := by push_cast; rfl
    refine if_neg (fun h => ?_)
    rw [e] at h
    have hne : (st (fun j => b (i + j)) m).c ≠ [] := fun h0 => by
      rw [if_pos ⟨h.1, h0⟩] at hr1
      simp at hr1
    have ht := h.2.2
    rw [h1] at ht
    have hne2 : (st (fun j => b (i + j)) m).c.map (· + (i : Int)) ≠ [] := fun h0 => hne (List.map_eq_nil_iff.1 h0)
    have e2 : top ((st b i).c ++ (st (fun j => b (i + j)) m).c.map (· + (i : Int))) = top (st (fun j => b (i + j)) m).c + i := by
      unfold top
      rw [List.getLast?_append, List.getLast?_map, List.getLast?_eq_some_getLast hne]
      rfl
    rw [e2] at ht
    have := ((basic (fun j => b (i + j)) m).hc _ (top_mem hne)).1
    omega
/-- What stands in brackets around a matched segment is matched: the call's partner is its last symbol. -/
theorem bracket (b : Int → Int) (i n : Nat) (hC : isC (b i) = true) (hr : (st (fun j => b ((i + 1 : Nat) + j)) n).r = []) (hc : (st (fun j => b ((i + 1 : Nat) + j)) n).c = []) (hR : isR (b ((i + 1 + n : Nat) : Int)) = true) :
    (st b (i + 1 + n)).c = (st b i).c ++ [(i : Int)] ∧ (st b (i + (n + 2))).c = (st b i).c ∧ (st b (i + (n + 2))).r = (st b i).r ∧ (∀ j : Nat, j < i → g (st b (i + (n + 2))).p j = g (st b i).p j) ∧ g (st b (i + (n + 2))).p i = ((i + 1 + n : Nat) : Int) := by
  have hnR : isR (b i) ≠ true := fun h => by rw [isR_notC h] at hC; cases hC
  have c1 : (st b (i + 1)).c = (st b i).c ++ [(i : Int)] := by rw [st_succ, step_c, if_neg hnR, if_pos hC]
  have r1 : (st b (i + 1)).r = (st b i).r := by rw [st_succ, step_r, if_neg (fun h => hnR h.1)]
  obtain ⟨s1, s2⟩ := segment b (i + 1) n hr n (Nat.le_refl _)
  rw [hc, List.map_nil, List.append_nil, c1] at s1
  rw [r1] at s2
  have en : i + (n + 2) = (i + 1 + n) + 1 := by omega
  have hne : (st b (i + 1 + n)).c ≠ [] := by rw [s1]; simp
  have tp : top (st b (i + 1 + n)).c = (i : Int) := by rw [s1]; unfold top; simp
  have lp := (basic b (i + 1 + n)).lp
  have lpi := (basic b i).lp
  refine ⟨s1, ?_, ?_, fun j hj => ?_, ?_⟩
  · rw [en, st_succ, step_c, if_pos hR, s1, List.dropLast_concat]
  · rw [en, st_succ, step_r, if_neg (fun h => hne h.2), s2]
  · rw [en, st_succ, p_old _ _ _ j (by omega), if_neg (fun h => by have := h.2.2; rw [tp] at this; omega), segment_p b (i + 1) n hr j (by omega) n (Nat.le_refl _), st_succ, p_old _ _ _ j (by omega), if_neg (fun h => hnR h.1)]
  · rw [en, st_succ, p_old _ _ _ i (by omega), if_pos ⟨hR, hne, by rw [tp]; simp⟩]
/-- What is left of a partner that is known stays. -/
theorem p_keep (b : Int → Int) (j : Nat) (n : Nat) (hj : j < n) (v : Int) (hv : v ≠ -2) (h : g (st b n).p j = v) : ∀ m, g (st b (n + m)).p j = v
  | 0 => h
  | m + 1 => by
    have ih := p_keep b j n hj v hv h m
    have lp := (basic b (n + m)).lp
    have I := inv b (n + m)
    rw [← Nat.add_assoc, st_succ, p_old _ _ _ j (by omega), ih]
    refine if_neg (fun hh => ?_)
    have ht := top_mem hh.2.1
    obtain ⟨t0, t1⟩ := (basic b (n + m)).hc _ ht
    have hjt : top (st b (n + m)).c = (j : Int) := by omega
    rw [hjt] at ht
    have := (I.m2 j (by omega)).2 (Or.inr ht)
    rw [ih] at this
    exact hv this
/-- The lengths of what is pending. -/
theorem len_step (b : Int → Int) (n : Nat) : (st b (n + 1)).c.length = (if isR (b n) = true then (st b n).c.length - 1 else if isC (b n) = true then (st b n).c.length + 1 else (st b n).c.length) ∧ (st b (n + 1)).r.length = (if isR (b n) = true ∧ (st b n).c.length = 0 then (st b n).r.length + 1 else (st b n).r.length) := by
  rw [st_succ, step_c, step_r]
  constructor
  · split
    · simp
    · split <;> simp
  · by_cases h : isR (b n) = true ∧ (st b n).c = []
    · rw [if_pos h, if_pos ⟨h.1, by rw [h.2]; rfl⟩]; simp
    · rw [if_neg h, if_neg (fun h2 => h ⟨h2.1, List.length_eq_zero_iff.1 h2.2⟩)]
/-- Calls ahead for all returns that are pending, returns behind for all calls: all matches. -/
theorem completed (b b' : Int → Int) (n : Nat) (h1 : ∀ j : Nat, j < (st b n).r.length → isC (b' j) = true) (h2 : ∀ j : Nat, j < n → b' (((st b n).r.length + j : Nat) : Int) = b j)
    (h3 : ∀ j : Nat, j < (st b n).c.length → isR (b' (((st b n).r.length + n + j : Nat) : Int)) = true) : (st b' ((st b n).r.length + n + (st b n).c.length)).r = [] ∧ (st b' ((st b n).r.length + n + (st b n).c.length)).c = [] := by
  have a1 : ∀ k, k ≤ (st b n).r.length → (st b' k).r.length = 0 ∧ (st b' k).c.length = k := by
    intro k
    induction k with
    | zero => intro _; simp [st]
    | succ k ih =>
      intro hk
      obtain ⟨i1, i2⟩ := ih (by omega)
      have hC := h1 k (by omega)
      have hnR : ¬ isR (b' k) = true := fun h => by rw [isR_notC h] at hC; cases hC
      obtain ⟨l1, l2⟩ := len_step b' k
      rw [if_neg hnR, if_pos hC] at l1
      rw [if_neg (fun h => hnR h.1)] at l2
      omega
  have hrm : ∀ k, k ≤ n → (st b k).r.length ≤ (st b n).r.length := by
    intro k hk
    obtain ⟨d, rfl⟩ := Nat.exists_eq_add_of_le hk
    obtain ⟨l, hl⟩ := r_mono b k d
    rw [hl]; simp
  have a2 : ∀ k, k ≤ n → (st b' ((st b n).r.length + k)).r.length = 0 ∧ (st b' ((st b n).r.length + k)).c.length = (st b n).r.length - (st b k).r.length + (st b k).c.length := by
    intro k
    induction k with
    | zero =>
      intro _
      have := a1 _ (Nat.le_refl _)
      rw [Nat.add_zero]
      simp [st, this]
    | succ k ih =>
      intro hk
      obtain ⟨i1, i2⟩ := ih (by omega)
      obtain ⟨l1, l2⟩ := len_step b' ((st b n).r.length + k)
      obtain ⟨m1, m2⟩ := len_step b k
      rw [h2 k (by omega)] at l1 l2
      have q1 := hrm k (by omega)
      have q2 := hrm (k + 1) (by omega)
      rw [← Nat.add_assoc]
      by_cases hR : isR (b k) = true
      · rw [if_pos hR] at l1 m1
        by_cases hz : (st b k).c.length = 0
        · rw [if_pos ⟨hR, hz⟩] at m2
          rw [if_neg (fun h => by omega)] at l2
          omega
        · rw [if_neg (fun h => hz h.2)] at m2
          rw [if_neg (fun h => by omega)] at l2
          omega
      · rw [if_neg hR] at l1 m1
        rw [if_neg (fun h => hR h.1)] at l2 m2
        by_cases hC : isC (b k) = true
        · rw [if_pos hC] at l1 m1
          omega
        · rw [if_neg hC] at l1 m1
          omega
  have a3 : ∀ k, k ≤ (st b n).c.length → (st b' ((st b n).r.length + n + k)).r.length = 0 ∧ (st b' ((st b n).r.length + n + k)).c.length = (st b n).c.length - k := by
    intro k
    induction k with
    | zero =>
      intro _
      have := a2 n (Nat.le_refl _)
      rw [Nat.add_zero]
      omega
    | succ k ih =>
      intro hk
      obtain ⟨i1, i2⟩ := ih (by omega)
      obtain ⟨l1, l2⟩ := len_step b' ((st b n).r.length + n + k)
      have hR := h3 k (by omega)
      rw [if_pos hR] at l1
      rw [if_neg (fun h => by omega)] at l2
      rw [← Nat.add_assoc]
      omega
  have := a3 _ (Nat.le_refl _)
  exact ⟨List.length_eq_zero_iff.1 this.1, List.length_eq_zero_iff.1 (by omega)⟩
end Go.Proofs.Ytolmmfcofbhagaa.Th
namespace Go.Proofs.Ytolmmfcofbhagaa.Br
open Go.RowKit Go.Proofs.Ytolmmfcofbhagaa.PC Go.Proofs.YtolmmfcofbhagaaW.PrintWords Go.Proofs.YtolmmfcofbhagaaW.PrintLast Go.Proofs.YtolmmfcofbhagaaW.PrintMore Go.Proofs.Ytolmmfcofbhagaa.Th
set_option linter.unusedVariables false
set_option linter.unusedSimpArgs false
set_option linter.unusedSectionVars false
theorem exs_size (a : ByteArray) {i e : Nat} (h : e ≤ a.size) : (a.extract i e).size = e - i := by rw [ByteArray.size_extract]; omega
/-- A matched word in brackets. -/
def brk (m : ByteArray) : ByteArray := ((⟨#[91]⟩ : ByteArray) ++ m) ++ (⟨#[41]⟩ : ByteArray)
theorem brk_size (m : ByteArray) : (brk m).size = m.size + 2 := by
  have h1 : (⟨#[91]⟩ : ByteArray).size = 1 := rfl
  have h2 : (⟨#[41]⟩ : ByteArray).size = 1 := rfl
  unfold brk
  rw [ByteArray.size_append, ByteArray.size_append, h1, h2]; omega
theorem brk_bt (m : ByteArray) (j : Nat) (h : j < m.size + 2) : bt (brk m) j = if j = 0 then 91 else if j = m.size + 1 then 41 else bt m ((j - 1 : Nat) : Int) := by
  have h1 : (⟨#[91]⟩ : ByteArray).size = 1 := rfl
  unfold brk
  rw [bt_append, ByteArray.size_append, h1]
  by_cases hl : j < 1 + m.size
  · rw [if_pos hl, bt_append, h1]
    by_cases h0 : j = 0
    · subst h0; rw [if_pos (by omega), if_pos rfl]; decide
    · rw [if_neg (by omega), if_neg h0, if_neg (by omega)]
  · rw [if_neg hl, if_neg (by omega), if_pos (by omega)]
    obtain rfl : j = 1 + m.size := by omega
    rw [Nat.sub_self]; decide
theorem brk_okw {m : ByteArray} (h : okw m = true) (hs : m.size ≤ 20) : okw (brk m) = true := by
  rw [okw_iff, brk_size]
  refine ⟨fun j hj => ?_, by omega⟩
  rw [brk_bt m j hj]
  split
  · decide
  · split
    · decide
    · exact okw_sym h (by omega)
theorem ins_bt (a : ByteArray) (i : Nat) (u : ByteArray) (hi : i ≤ a.size) (j : Nat) (hj : j < a.size + u.size) : bt (ins a i u) j = if j < i then bt a j else if j < i + u.size then bt u ((j - i : Nat) : Int) else bt a ((j - u.size : Nat) : Int) := by
  unfold ins
  rw [bt_append, ByteArray.size_append, exs_size a hi]
  by_cases h1 : j < i
  · rw [if_pos (by omega), bt_append, exs_size a hi, if_pos (by omega), if_pos h1, bt_extract a hi (by omega), Nat.zero_add]
  · rw [if_neg h1]
    by_cases h2 : j < i + u.size
    · rw [if_pos (by omega), if_pos h2, bt_append, exs_size a hi, if_neg (by omega), Nat.sub_zero]
    · rw [if_neg (by omega), if_neg h2, bt_extract a (Nat.le_refl _) (by omega)]
      congr 1; omega
/-- Behind the brackets, the stack is as ahead of them. -/
theorem ins_state (w m : ByteArray) (i : Nat) (hi : i ≤ w.size) (hm : mtc m = true) : (∀ k, k ≤ w.size - i → (∀ j : Nat, j < i → g (st (bt (ins w i (brk m))) (i + k + (m.size + 2))).p j = put i (m.size + 2) (g (st (bt w) (i + k)).p j)) ∧ (∀ j : Nat, i ≤ j → j < i + k → g (st (bt (ins w i (brk m))) (i + k + (m.size + 2))).p (j + (m.size + 2)) = put i (m.size + 2) (g (st (bt w) (i + k)).p j))) ∧
    g (st (bt (ins w i (brk m))) (w.size + (m.size + 2))).p i = ((i + 1 + m.size : Nat) : Int) := by
  have hbs := brk_size m
  obtain ⟨mr, mc⟩ := mtc_nil hm
  have hx : ∀ j : Nat, j < w.size + (m.size + 2) → bt (ins w i (brk m)) j = if j < i then bt w j else if j < i + (m.size + 2) then bt (brk m) ((j - i : Nat) : Int) else bt w ((j - (m.size + 2) : Nat) : Int) := by
    intro j hj
    have := ins_bt w i (brk m) hi j (by rw [hbs]; exact hj)
    rwa [hbs] at this
  -- beyond the word's end nothing is asked: a reading with the same bytes, told for all places
  let B : Int → Int := fun v => if v < i then bt w v else if v < i + (m.size + 2) then bt (brk m) (v - i) else bt w (v - (m.size + 2))
  have hB : ∀ j : Nat, j < w.size + (m.size + 2) → bt (ins w i (brk m)) j = B j := by
    intro j hj
    rw [hx j hj]
    show _ = if (j : Int) < i then bt w j else if (j : Int) < i + (m.size + 2) then bt (brk m) ((j : Int) - i) else bt w ((j : Int) - (m.size + 2))
    by_cases h1 : j < i
    · rw [if_pos h1, if_pos (show (j : Int) < (i : Int) by omega)]
    · rw [if_neg h1, if_neg (show ¬ (j : Int) < (i : Int) by omega)]
      by_cases h2 : j < i + (m.size + 2)
      · rw [if_pos h2, if_pos (show (j : Int) < (i : Int) + ((m.size : Int) + 2) by omega)]; congr 1; omega
      · rw [if_neg h2, if_neg (show ¬ (j : Int) < (i : Int) + ((m.size : Int) + 2) by omega)]; congr 1; omega
  have hst : ∀ n, n ≤ w.size + (m.size + 2) → st (bt (ins w i (brk m))) n = st B n := fun n hn => st_congr n fun j hj => hB j (by omega)
  have b0 : B i = 91 := by
    show (if (i : Int) < i then bt w i else if (i : Int) < i + (m.size + 2) then bt (brk m) ((i : Int) - i) else bt w ((i : Int) - (m.size + 2))) = 91
    rw [if_neg (by omega), if_pos (by omega), Int.sub_self]
    have := brk_bt m 0 (by omega)
    rw [if_pos rfl] at this
    exact this
  have bl : B ((i + 1 + m.size : Nat) : Int) = 41 := by
    show (if ((i + 1 + m.size : Nat) : Int) < i then bt w ((i + 1 + m.size : Nat) : Int) else if ((i + 1 + m.size : Nat) : Int) < i + (m.size + 2) then bt (brk m) (((i + 1 + m.size : Nat) : Int) - i) else bt w (((i + 1 + m.size : Nat) : Int) - (m.size + 2))) = 41
    rw [if_neg (by omega), if_pos (by omega), show ((i + 1 + m.size : Nat) : Int) - i = ((m.size + 1 : Nat) : Int) by omega]
    have := brk_bt m (m.size + 1) (by omega)
    rw [if_neg (by omega), if_pos rfl] at this
    exact this
  have hseg : st (fun j => B ((i + 1 : Nat) + j)) m.size = st (bt m) m.size := by
    refine st_congr _ fun j hj => ?_
    show (if ((i + 1 : Nat) : Int) + (j : Int) < i then bt w (((i + 1 : Nat) : Int) + (j : Int)) else if ((i + 1 : Nat) : Int) + (j : Int) < i + (m.size + 2) then bt (brk m) (((i + 1 : Nat) : Int) + (j : Int) - i) else bt w (((i + 1 : Nat) : Int) + (j : Int) - (m.size + 2))) = bt m j
    rw [if_neg (by omega), if_pos (by omega), show ((i + 1 : Nat) : Int) + (j : Int) - i = ((j + 1 : Nat) : Int) by omega, brk_bt m (j + 1) (by omega), if_neg (by omega), if_neg (by omega)]
    rfl
  obtain ⟨_, c2, r2, p2, pi⟩ := bracket B i m.size (by rw [b0]; decide) (by rw [hseg]; exact mr) (by rw [hseg]; exact mc) (by rw [bl]; decide)
  have hpre : ∀ j : Nat, j < i → B j = bt w j := fun j hj => by
    show (if (j : Int) < i then bt w j else if (j : Int) < i + (m.size + 2) then bt (brk m) ((j : Int) - i) else bt w ((j : Int) - (m.size + 2))) = bt w j
    rw [if_pos (by omega)]
  have hpost : ∀ j : Nat, i ≤ j → B ((j + (m.size + 2) : Nat) : Int) = bt w j := fun j hj => by
    show (if ((j + (m.size + 2) : Nat) : Int) < i then bt w ((j + (m.size + 2) : Nat) : Int) else if ((j + (m.size + 2) : Nat) : Int) < i + (m.size + 2) then bt (brk m) (((j + (m.size + 2) : Nat) : Int) - i) else bt w (((j + (m.size + 2) : Nat) : Int) - (m.size + 2))) = bt w j
    rw [if_neg (by omega), if_neg (by omega)]
    congr 1; omega
  have bh := behind (bt w) B i (m.size + 2) hpre hpost c2 r2 p2
  refine ⟨fun k hk => ?_, ?_⟩
  · obtain ⟨_, _, h3, h4⟩ := bh k
    rw [hst _ (by omega)]
    exact ⟨h3, h4⟩
  · rw [hst _ (by omega)]
    have := p_keep B i (i + (m.size + 2)) (by omega) _ (by omega) pi (w.size - i)
    rwa [show i + (m.size + 2) + (w.size - i) = w.size + (m.size + 2) by omega] at this
theorem ins_partner (w m : ByteArray) (i : Nat) (hi : i ≤ w.size) (hm : mtc m = true) (j : Nat) (hj : j < w.size) : g (st (bt (ins w i (brk m))) (ins w i (brk m)).size).p (if j ≥ i then j + (m.size + 2) else j) = put i (m.size + 2) (g (st (bt w) w.size).p j) := by
  have h := (ins_state w m i hi hm).1 (w.size - i) (Nat.le_refl _)
  rw [show i + (w.size - i) = w.size by omega] at h
  rw [ins_size w (brk m) hi, brk_size]
  by_cases hji : j ≥ i
  · rw [if_pos hji]; exact h.2 j hji hj
  · rw [if_neg hji]; exact h.1 j (by omega)
theorem ins_cut (a : ByteArray) (i : Nat) (u : ByteArray) (hi : i ≤ a.size) : (ins a i u).extract 0 i ++ (ins a i u).extract (i + u.size) (ins a i u).size = a := by
  have hs := ins_size a u hi
  refine ba_ext ?_ fun j hj => ?_
  · rw [ByteArray.size_append, exs_size _ (by omega), exs_size _ (Nat.le_refl _), hs]; omega
  · rw [ByteArray.size_append, exs_size _ (by omega), exs_size _ (Nat.le_refl _), hs] at hj
    rw [bt_append, exs_size _ (by omega)]
    by_cases h : j < i - 0
    · rw [if_pos h, bt_extract _ (by omega) (by omega), Nat.zero_add, ins_bt a i u hi j (by omega), if_pos (by omega)]
    · rw [if_neg h, bt_extract _ (Nat.le_refl _) (by rw [hs]; omega), ins_bt a i u hi _ (by omega), if_neg (by omega), if_neg (by omega)]
      congr 1; omega
theorem cut_back (w m : ByteArray) (i : Nat) (hi : i ≤ w.size) (hm : mtc m = true) (hx : okw (ins w i (brk m)) = true) : cutR (ins w i (brk m)) i = (w, 0) := by
  have hs := ins_size w (brk m) hi
  have hb := brk_size m
  have hp := (ins_state w m i hi hm).2
  have hb0 : bt (ins w i (brk m)) i = 91 := by
    rw [ins_bt w i (brk m) hi i (by omega), if_neg (by omega), if_pos (by omega), Nat.sub_self]
    have := brk_bt m 0 (by omega)
    rw [if_pos rfl] at this
    exact this
  have hcl : clo (ins w i (brk m)) i = (((i + 1 + m.size : Nat) : Int), 0) := by
    unfold clo
    rw [if_pos hx, if_pos (by rw [hs]; omega), g_rd, hs, hb, hp, hb0, if_pos ⟨by decide, by omega⟩]
  unfold cutR
  rw [hcl, if_pos rfl]
  have hc := ins_cut w i (brk m) hi
  rw [hb] at hc
  rw [Int.toNat_natCast, show (((i + 1 + m.size : Nat) : Int) + 1).toNat = i + (m.size + 2) by omega, hc]
theorem comp_mtc {a : ByteArray} (h : okw a = true) : mtc (compW a) = true := by
  have hs := okw_size h
  have B := basic (bt a) a.size
  have hsz : (compW a).size = (st (bt a) a.size).r.length + a.size + (st (bt a) a.size).c.length := by
    unfold compW
    rw [ByteArray.size_append, ByteArray.size_append, rp_size, sn_size, bk_len, at_len]; omega
  have hby : ∀ x ∈ bk (at_ a (st (bt a) a.size).c) 0, x = 41 ∨ x = 93 := by
    intro x hx
    unfold bk at hx
    obtain ⟨y, _, rfl⟩ := List.mem_map.1 hx
    unfold oth
    split
    · exact Or.inl rfl
    · exact Or.inr rfl
  have hlen : (bk (at_ a (st (bt a) a.size).c) 0).length = (st (bt a) a.size).c.length := by rw [bk_len, at_len]; omega
  have hpre : (rp (st (bt a) a.size).r.length ++ a).size = (st (bt a) a.size).r.length + a.size := by rw [ByteArray.size_append, rp_size]
  obtain ⟨q1, q2⟩ := completed (bt a) (bt (compW a)) a.size (fun j hj => by
      unfold compW
      rw [bt_append, hpre, if_pos (by omega), bt_append, rp_size, if_pos hj, rp_bt _ _ hj]; decide) (fun j hj => by
      unfold compW
      rw [bt_append, hpre, if_pos (by omega), bt_append, rp_size, if_neg (by omega)]
      congr 1; omega) (fun j hj => by
      unfold compW
      rw [bt_append, hpre, if_neg (by omega), sn_bt (fun x hx => by rcases hby x hx with rfl | rfl <;> omega)]
      have := hby _ (getD_mem (bk (at_ a (st (bt a) a.size).c) 0) ((st (bt a) a.size).r.length + a.size + j - ((st (bt a) a.size).r.length + a.size)) 0 (by omega))
      unfold g
      rcases this with e | e <;> rw [e] <;> decide)
  unfold mtc
  rw [hsz, q1, q2]
  rfl
theorem comp_mid (a : ByteArray) : (compW a).extract (st (bt a) a.size).r.length ((st (bt a) a.size).r.length + a.size) = a := by
  have hpre : (rp (st (bt a) a.size).r.length ++ a).size = (st (bt a) a.size).r.length + a.size := by rw [ByteArray.size_append, rp_size]
  have hle : (st (bt a) a.size).r.length + a.size ≤ (compW a).size := by unfold compW; rw [ByteArray.size_append, hpre]; omega
  refine ba_ext (by rw [exs_size _ hle]; omega) fun j hj => ?_
  rw [exs_size _ hle] at hj
  rw [bt_extract _ hle hj]
  unfold compW
  rw [bt_append, hpre, if_pos (by omega), bt_append, rp_size, if_neg (by omega)]
  congr 1; omega
theorem iJoin_ev {a b : ByteArray} (ha : okw a = true) (hb : okw b = true) (h : a.size + b.size ≤ 60) : Ev (fun k => impl_JoinWords.f k a b) (a ++ b, 0) := by
  have e := okw_append ha hb
  have hs := ByteArray.size_append (a := a) (b := b)
  unfold impl_JoinWords.f
  refine Ev.bind (valid_ev a (by omega)) ?_
  simp only [ha, if_true]
  refine Ev.bind (valid_ev b (by omega)) ?_
  simp only [hb, if_true, if_pos (show a.size + b.size ≤ 9223372036854775807 by omega), impl_orLimit.f]
  refine Ev.bind (a := (a ++ b, 0)) ?_ (Ev.now _)
  refine Ev.bind (valid_ev (a ++ b) (by omega)) ?_
  rw [e, decide_eq_true h]
  exact Ev.now _
end Go.Proofs.Ytolmmfcofbhagaa.Br
