/- Texts that this law leans on, several in one; written by programs of these sessions (print, wip/deep, gather.py). -/
import Derived.Test.YtgfilbgjnloopaaGe5
import Derived.Test.YtgfilbgjnloopaaRows
import Derived.WalkKit
import Derived.ProofKit
import Derived.OpenShut
import Derived.ShutString
import Derived.ChangeOld
import Derived.Below
import Derived.SizedLaws
import Derived.Deep.Slices
import Derived.ChangeArms
import Derived.DataReads
namespace Go.Proofs.Ytgfilbgjnloopaa.Th

def isC (b : Int) : Bool := b == 40 || b == 91
def isR (b : Int) : Bool := b == 41 || b == 93

structure St where
  p : List Int
  r : List Int
  c : List Int
  d : List Int
  q : List Int

def top (c : List Int) : Int := c.getLast?.getD (-1)

def step (s : St) (i b : Int) : St :=
  if isR b = true then
    if s.c = [] then ⟨s.p ++ [-2], s.r ++ [i], [], s.d ++ [0], s.q ++ [-1]⟩
    else ⟨s.p.set (top s.c).toNat i ++ [top s.c], s.r, s.c.dropLast, s.d ++ [(s.c.dropLast.length : Int)], s.q ++ [top s.c.dropLast]⟩
  else if isC b = true then ⟨s.p ++ [-2], s.r, s.c ++ [i], s.d ++ [(s.c.length : Int) + 1], s.q ++ [top s.c]⟩
  else ⟨s.p ++ [-1], s.r, s.c, s.d ++ [(s.c.length : Int)], s.q ++ [top s.c]⟩

def st (b : Int → Int) : Nat → St
  | 0 => ⟨[], [], [], [0], []⟩
  | n + 1 => step (st b n) n (b n)

theorem isR_notC {b : Int} (h : isR b = true) : isC b = false := by
  unfold isR at h; unfold isC
  simp at h ⊢
  omega

structure Basic (s : St) (n : Nat) : Prop where
  lp : s.p.length = n
  lq : s.q.length = n
  ld : s.d.length = n + 1
  lr : s.r.length ≤ n
  lc : s.c.length ≤ n
  hc : ∀ x ∈ s.c, 0 ≤ x ∧ x < n
  hr : ∀ x ∈ s.r, 0 ≤ x ∧ x < n

theorem top_mem {c : List Int} (h : c ≠ []) : top c ∈ c := by
  unfold top
  rw [List.getLast?_eq_some_getLast h]
  exact List.getLast_mem h

theorem basic (b : Int → Int) : ∀ n, Basic (st b n) n
  | 0 => by constructor <;> simp [st]
  | n + 1 => by
    have ih := basic b n
    obtain ⟨h1, h2, h3, h4, h5, h6, h7⟩ := ih
    unfold st step
    split
    · split
      · constructor <;> simp_all
        · intro x hx; rcases hx with hx | hx
          · have := h7 x hx; omega
          · omega
      · rename_i hne
        have hd : ∀ x ∈ (st b n).c.dropLast, x ∈ (st b n).c := fun x hx => List.dropLast_subset _ hx
        constructor
        · simp; exact h1
        · simp; exact h2
        · simp; exact h3
        · simp; omega
        · simp; omega
        · intro x hx; have := h6 x (hd x hx); constructor <;> omega
        · intro x hx; have := h7 x hx; constructor <;> omega
    · split
      · constructor
        · simp; exact h1
        · simp; exact h2
        · simp; exact h3
        · simp; omega
        · simp; omega
        · intro x hx
          rcases List.mem_append.1 hx with hx | hx
          · have := h6 x hx; constructor <;> omega
          · simp at hx; omega
        · intro x hx; have := h7 x hx; constructor <;> omega
      · constructor
        · simp; exact h1
        · simp; exact h2
        · simp; exact h3
        · simp; omega
        · simp; omega
        · intro x hx; have := h6 x hx; constructor <;> omega
        · intro x hx; have := h7 x hx; constructor <;> omega


def g (l : List Int) (j : Nat) : Int := l.getD j 0

theorem g_append_left {l m : List Int} {j : Nat} (h : j < l.length) : g (l ++ m) j = g l j := by
  unfold g; simp [List.getD_eq_getElem?_getD, List.getElem?_append_left h]
theorem g_append_end {l : List Int} {x : Int} {j : Nat} (h : j = l.length) : g (l ++ [x]) j = x := by
  subst h; unfold g; simp [List.getD_eq_getElem?_getD]
theorem g_set {l : List Int} {t j : Nat} {x : Int} : g (l.set t x) j = if t = j ∧ j < l.length then x else g l j := by
  unfold g
  simp only [List.getD_eq_getElem?_getD, List.getElem?_set]
  by_cases h : t = j
  · subst h
    by_cases h2 : t < l.length
    · simp [h2]
    · simp [h2]
  · simp [h]

structure Inv (b : Int → Int) (s : St) (n : Nat) : Prop where
  ba : Basic s n
  inc : (s.r ++ s.c).Pairwise (· < ·)
  m2 : ∀ j : Nat, j < n → (g s.p j = -2 ↔ (j : Int) ∈ s.r ∨ (j : Int) ∈ s.c)
  br : ∀ j : Nat, (j : Int) ∈ s.r → isR (b j) = true
  bc : ∀ j : Nat, (j : Int) ∈ s.c → isC (b j) = true
  m1 : ∀ j : Nat, j < n → (g s.p j = -1 ↔ isC (b j) = false ∧ isR (b j) = false)
  pos : ∀ j : Nat, j < n → 0 ≤ g s.p j → g s.p j < n ∧ g s.p (g s.p j).toNat = j ∧ ((isC (b j) = true ∧ (j : Int) < g s.p j) ∨ (isR (b j) = true ∧ g s.p j < j))
  lo : ∀ j : Nat, j < n → -2 ≤ g s.p j

theorem pw_mem {l : List Int} {x : Int} (h : (l ++ [x]).Pairwise (· < ·)) : ∀ y ∈ l, y < x := by
  intro y hy
  exact (List.pairwise_append.1 h).2.2 y hy x (by simp)

theorem dropLast_top {c : List Int} (h : c ≠ []) : c.dropLast ++ [top c] = c := by
  unfold top
  rw [List.getLast?_eq_some_getLast h]
  exact List.dropLast_concat_getLast h

theorem inv (b : Int → Int) : ∀ n, Inv b (st b n) n
  | 0 => by
    constructor <;> first | exact basic b 0 | simp [st]
  | n + 1 => by
    have ih := inv b n
    have hba := basic b (n + 1)
    have hst : st b (n + 1) = step (st b n) n (b n) := rfl
    obtain ⟨B, inc, m2, br, bc, m1, pos, lo⟩ := ih
    obtain ⟨lp, lq, ld, lr, lc, hc, hr⟩ := B
    generalize hs : st b n = s at *
    rw [hst] at hba ⊢
    by_cases hR : isR (b n) = true
    · have hC := isR_notC hR
      by_cases he : s.c = []
      · have e : step s n (b n) = ⟨s.p ++ [-2], s.r ++ [(n : Int)], [], s.d ++ [0], s.q ++ [-1]⟩ := by simp [step, hR, he]
        rw [e] at hba ⊢
        rw [he, List.append_nil] at inc
        have gl : ∀ j : Nat, j < n → g (s.p ++ [-2]) j = g s.p j := fun j hj => g_append_left (by omega)
        have gn : g (s.p ++ [-2]) n = -2 := g_append_end lp.symm
        refine ⟨hba, ?_, ?_, ?_, ?_, ?_, ?_, ?_⟩
        · simp only [List.append_nil]
          refine List.pairwise_append.2 ⟨inc, by simp, ?_⟩
          intro a ha x hx; simp at hx; subst hx; exact (hr a ha).2
        · intro j hj
          by_cases hjn : j = n
          · subst hjn; simp [gn]
          · have hj' : j < n := by omega
            rw [gl j hj', m2 j hj', he]
            simp; omega
        · intro j hj
          rcases List.mem_append.1 hj with h | h
          · exact br j h
          · simp at h; rw [show j = n by omega]; exact hR
        · intro j hj; simp at hj
        · intro j hj
          by_cases hjn : j = n
          · subst hjn; simp [gn, hR]
          · have hj' : j < n := by omega
            rw [gl j hj']; exact m1 j hj'
        · intro j hj h0
          by_cases hjn : j = n
          · subst hjn; rw [gn] at h0; omega
          · have hj' : j < n := by omega
            rw [gl j hj'] at h0 ⊢
            obtain ⟨p1, p2, p3⟩ := pos j hj' h0
            refine ⟨by omega, ?_, p3⟩
            rw [gl _ (by omega)]; exact p2
        · intro j hj
          by_cases hjn : j = n
          · subst hjn; rw [gn]; omega
          · have hj' : j < n := by omega
            rw [gl j hj']; exact lo j hj'
      · have e : step s n (b n) = ⟨s.p.set (top s.c).toNat n ++ [top s.c], s.r, s.c.dropLast, s.d ++ [(s.c.dropLast.length : Int)], s.q ++ [top s.c.dropLast]⟩ := by simp [step, hR, he]
        rw [e] at hba ⊢
        have ht := top_mem he
        obtain ⟨t0, t1⟩ := hc _ ht
        obtain ⟨t, htt⟩ := Int.eq_ofNat_of_zero_le t0
        have hdt := dropLast_top he
        have htn : t < n := by omega
        have ht2 : g s.p t = -2 := (m2 t htn).2 (Or.inr (htt ▸ ht))
        have htC : isC (b t) = true := bc t (htt ▸ ht)
        rw [htt] at hdt ⊢
        simp only [Int.toNat_natCast]
        have inc' : (s.r ++ s.c.dropLast ++ [(t : Int)]).Pairwise (· < ·) := by rw [List.append_assoc, hdt]; exact inc
        have hlt := pw_mem inc'
        have gn : g (s.p.set t n ++ [(t : Int)]) n = t := g_append_end (by simp [lp])
        have gl : ∀ j : Nat, j < n → g (s.p.set t n ++ [(t : Int)]) j = if t = j then (n : Int) else g s.p j := by
          intro j hj
          rw [g_append_left (by simp; omega), g_set]
          by_cases h : t = j
          · simp [h]; omega
          · simp [h]
        have hcm : ∀ j : Nat, (j : Int) ∈ s.c ↔ (j : Int) ∈ s.c.dropLast ∨ j = t := by
          intro j
          conv => lhs; rw [← hdt]
          rw [List.mem_append, List.mem_singleton, Int.ofNat_inj]
        refine ⟨by rw [htt] at hba; simpa using hba, ?_, ?_, ?_, ?_, ?_, ?_, ?_⟩
        · exact (List.pairwise_append.1 inc').1
        · intro j hj
          by_cases hjn : j = n
          · subst hjn
            rw [gn]
            constructor
            · intro h; omega
            · intro h
              rcases h with h | h
              · have := hr _ h; omega
              · have := hc _ ((hcm j).2 (Or.inl h)); omega
          · have hj' : j < n := by omega
            rw [gl j hj']
            by_cases hjt : t = j
            · subst hjt
              simp only [if_true]
              constructor
              · intro h; omega
              · intro h
                rcases h with h | h
                · have := hlt t (by simp [h]); omega
                · have := hlt t (by simp [h]); omega
            · rw [if_neg hjt, m2 j hj', hcm j]
              constructor
              · rintro (h | h | h)
                · exact Or.inl h
                · exact Or.inr h
                · omega
              · rintro (h | h)
                · exact Or.inl h
                · exact Or.inr (Or.inl h)
        · exact br
        · intro j hj; exact bc j ((hcm j).2 (Or.inl hj))
        · intro j hj
          by_cases hjn : j = n
          · subst hjn; rw [gn]; simp [hR]
          · have hj' : j < n := by omega
            rw [gl j hj']
            by_cases hjt : t = j
            · subst hjt; simp [htC]
            · rw [if_neg hjt]; exact m1 j hj'
        · intro j hj h0
          by_cases hjn : j = n
          · subst hjn
            rw [gn]
            refine ⟨by omega, ?_, Or.inr ⟨hR, by omega⟩⟩
            rw [Int.toNat_natCast, gl t htn, if_pos rfl]
          · have hj' : j < n := by omega
            rw [gl j hj'] at h0 ⊢
            by_cases hjt : t = j
            · subst hjt
              simp only [if_true]
              refine ⟨by omega, ?_, Or.inl ⟨htC, by omega⟩⟩
              rw [Int.toNat_natCast, gn]
            · rw [if_neg hjt] at h0 ⊢
              obtain ⟨p1, p2, p3⟩ := pos j hj' h0
              refine ⟨by omega, ?_, p3⟩
              rw [gl _ (by omega), if_neg]
              · exact p2
              · intro h; rw [← h, ht2] at p2; omega
        · intro j hj
          by_cases hjn : j = n
          · subst hjn; rw [gn]; omega
          · have hj' : j < n := by omega
            rw [gl j hj']
            split
            · omega
            · exact lo j hj'
    · have hR' : isR (b n) = false := by simpa using hR
      by_cases hC : isC (b n) = true
      · have e : step s n (b n) = ⟨s.p ++ [-2], s.r, s.c ++ [(n : Int)], s.d ++ [(s.c.length : Int) + 1], s.q ++ [top s.c]⟩ := by simp [step, hR, hC]
        rw [e] at hba ⊢
        have gl : ∀ j : Nat, j < n → g (s.p ++ [-2]) j = g s.p j := fun j hj => g_append_left (by omega)
        have gn : g (s.p ++ [-2]) n = -2 := g_append_end lp.symm
        refine ⟨hba, ?_, ?_, ?_, ?_, ?_, ?_, ?_⟩
        · rw [← List.append_assoc]
          refine List.pairwise_append.2 ⟨inc, by simp, ?_⟩
          intro a ha x hx; simp at hx; subst hx
          rcases List.mem_append.1 ha with h | h
          · exact (hr a h).2
          · exact (hc a h).2
        · intro j hj
          by_cases hjn : j = n
          · subst hjn; simp [gn]
          · have hj' : j < n := by omega
            rw [gl j hj', m2 j hj', List.mem_append, List.mem_singleton, Int.ofNat_inj]
            constructor
            · rintro (h | h)
              · exact Or.inl h
              · exact Or.inr (Or.inl h)
            · rintro (h | h | h)
              · exact Or.inl h
              · exact Or.inr h
              · omega
        · exact br
        · intro j hj
          rcases List.mem_append.1 hj with h | h
          · exact bc j h
          · simp at h; rw [show j = n by omega]; exact hC
        · intro j hj
          by_cases hjn : j = n
          · subst hjn; simp [gn, hC]
          · have hj' : j < n := by omega
            rw [gl j hj']; exact m1 j hj'
        · intro j hj h0
          by_cases hjn : j = n
          · subst hjn; rw [gn] at h0; omega
          · have hj' : j < n := by omega
            rw [gl j hj'] at h0 ⊢
            obtain ⟨p1, p2, p3⟩ := pos j hj' h0
            refine ⟨by omega, ?_, p3⟩
            rw [gl _ (by omega)]; exact p2
        · intro j hj
          by_cases hjn : j = n
          · subst hjn; rw [gn]; omega
          · have hj' : j < n := by omega
            rw [gl j hj']; exact lo j hj'
      · have hC' : isC (b n) = false := by simpa using hC
        have e : step s n (b n) = ⟨s.p ++ [-1], s.r, s.c, s.d ++ [(s.c.length : Int)], s.q ++ [top s.c]⟩ := by simp [step, hR, hC]
        rw [e] at hba ⊢
        have gl : ∀ j : Nat, j < n → g (s.p ++ [-1]) j = g s.p j := fun j hj => g_append_left (by omega)
        have gn : g (s.p ++ [-1]) n = -1 := g_append_end lp.symm
        refine ⟨hba, inc, ?_, br, bc, ?_, ?_, ?_⟩
        · intro j hj
          by_cases hjn : j = n
          · subst hjn; rw [gn]
            constructor
            · intro h; omega
            · rintro (h | h)
              · have := hr _ h; omega
              · have := hc _ h; omega
          · have hj' : j < n := by omega
            rw [gl j hj', m2 j hj']
        · intro j hj
          by_cases hjn : j = n
          · subst hjn; simp [gn, hC', hR']
          · have hj' : j < n := by omega
            rw [gl j hj']; exact m1 j hj'
        · intro j hj h0
          by_cases hjn : j = n
          · subst hjn; rw [gn] at h0; omega
          · have hj' : j < n := by omega
            rw [gl j hj'] at h0 ⊢
            obtain ⟨p1, p2, p3⟩ := pos j hj' h0
            refine ⟨by omega, ?_, p3⟩
            rw [gl _ (by omega)]; exact p2
        · intro j hj
          by_cases hjn : j = n
          · subst hjn; rw [gn]; omega
          · have hj' : j < n := by omega
            rw [gl j hj']; exact lo j hj'

/-- What is on the stack after m symbols: by the partners at the end. -/
theorem onstack (b : Int → Int) (m : Nat) : ∀ n, m ≤ n → ∀ k : Nat, k < m → ((k : Int) ∈ (st b m).c ↔ isC (b k) = true ∧ (g (st b n).p k = -2 ∨ (m : Int) ≤ g (st b n).p k)) := by
  intro n hn
  obtain ⟨d, rfl⟩ := Nat.exists_eq_add_of_le hn
  clear hn
  induction d with
  | zero =>
    intro k hk
    have I := inv b m
    constructor
    · intro h; exact ⟨I.bc k h, Or.inl ((I.m2 k hk).2 (Or.inr h))⟩
    · rintro ⟨h1, h2 | h2⟩
      · rcases (I.m2 k hk).1 h2 with h | h
        · have := isR_notC (I.br k h); rw [this] at h1; cases h1
        · exact h
      · have := I.pos k hk (by simp at h2; omega)
        simp at h2; omega
  | succ d ih =>
    intro k hk
    rw [ih k hk]
    have I := inv b (m + d)
    have B := I.ba
    have hst : st b (m + (d + 1)) = step (st b (m + d)) ((m + d : Nat) : Int) (b ((m + d : Nat) : Int)) := rfl
    rw [hst]
    generalize hs : st b (m + d) = s at *
    have lp := B.lp
    unfold step
    split
    · split
      · rw [g_append_left (by omega)]
      · rename_i he
        have ht := top_mem he
        obtain ⟨t0, t1⟩ := B.hc _ ht
        obtain ⟨t, htt⟩ := Int.eq_ofNat_of_zero_le t0
        rw [htt]
        simp only [Int.toNat_natCast]
        rw [g_append_left (by simp; omega), g_set]
        by_cases h : t = k
        · subst h
          have h2 : g s.p t = -2 := (I.m2 t (by omega)).2 (Or.inr (htt ▸ ht))
          rw [if_pos ⟨rfl, by omega⟩, h2]
          simp
          intro _
          right
          omega
        · rw [if_neg (by omega)]
    · split
      · rw [g_append_left (by omega)]
      · rw [g_append_left (by omega)]

/-- Two increasing lists with the same members. -/
theorem inc_ext : ∀ {l m : List Int}, l.Pairwise (· < ·) → m.Pairwise (· < ·) → (∀ x, x ∈ l ↔ x ∈ m) → l = m
  | [], [], _, _, _ => rfl
  | [], y :: m, _, _, h => by have := (h y).2 (by simp); simp at this
  | x :: l, [], _, _, h => by have := (h x).1 (by simp); simp at this
  | x :: l, y :: m, hl, hm, h => by
    obtain ⟨a1, a2⟩ := List.pairwise_cons.1 hl
    obtain ⟨b1, b2⟩ := List.pairwise_cons.1 hm
    have e : x = y := by
      rcases List.mem_cons.1 ((h x).1 (by simp)) with r | r
      · exact r
      · rcases List.mem_cons.1 ((h y).2 (by simp)) with r2 | r2
        · exact r2.symm
        · have := b1 x r; have := a1 y r2; omega
    subst e
    congr 1
    refine inc_ext a2 b2 fun z => ?_
    have hz := h z
    constructor
    · intro hz2
      rcases List.mem_cons.1 (hz.1 (List.mem_cons_of_mem _ hz2)) with r | r
      · have := a1 z hz2; omega
      · exact r
    · intro hz2
      rcases List.mem_cons.1 (hz.2 (List.mem_cons_of_mem _ hz2)) with r | r
      · have := b1 z hz2; omega
      · exact r

/-- The places up to i for which a test says yes, in order. -/
def sel (f : Nat → Bool) : Nat → List Int
  | 0 => []
  | i + 1 => if f i then sel f i ++ [(i : Int)] else sel f i

theorem mem_sel {f : Nat → Bool} : ∀ {i : Nat} {x : Int}, x ∈ sel f i ↔ ∃ j : Nat, j < i ∧ x = j ∧ f j = true
  | 0, x => by simp [sel]
  | i + 1, x => by
    unfold sel
    split
    · rename_i h
      rw [List.mem_append, mem_sel (i := i)]
      constructor
      · rintro (⟨j, h1, h2, h3⟩ | hx)
        · exact ⟨j, by omega, h2, h3⟩
        · simp at hx; exact ⟨i, by omega, hx, h⟩
      · rintro ⟨j, h1, h2, h3⟩
        by_cases hj : j = i
        · subst hj; right; simp [h2]
        · left; exact ⟨j, by omega, h2, h3⟩
    · rename_i h
      rw [mem_sel (i := i)]
      constructor
      · rintro ⟨j, h1, h2, h3⟩; exact ⟨j, by omega, h2, h3⟩
      · rintro ⟨j, h1, h2, h3⟩
        by_cases hj : j = i
        · subst hj; exact absurd h3 h
        · exact ⟨j, by omega, h2, h3⟩

theorem sel_inc {f : Nat → Bool} : ∀ i, (sel f i).Pairwise (· < ·)
  | 0 => by simp [sel]
  | i + 1 => by
    unfold sel
    split
    · refine List.pairwise_append.2 ⟨sel_inc i, by simp, ?_⟩
      intro a ha x hx
      obtain ⟨j, h1, h2, _⟩ := mem_sel.1 ha
      simp at hx; omega
    · exact sel_inc i

theorem sel_len {f : Nat → Bool} : ∀ i, (sel f i).length ≤ i
  | 0 => by simp [sel]
  | i + 1 => by
    have := sel_len (f := f) i
    unfold sel
    split
    · simp; omega
    · omega

theorem pend_r (b : Int → Int) (n : Nat) : sel (fun j => g (st b n).p j == -2 && isR (b j)) n = (st b n).r := by
  have I := inv b n
  refine inc_ext (sel_inc n) (List.pairwise_append.1 I.inc).1 fun x => ?_
  rw [mem_sel]
  constructor
  · rintro ⟨j, h1, rfl, h3⟩
    simp at h3
    rcases (I.m2 j h1).1 h3.1 with h | h
    · exact h
    · have := isR_notC h3.2; rw [I.bc j h] at this; cases this
  · intro h
    have hx := I.ba.hr x h
    obtain ⟨j, rfl⟩ := Int.eq_ofNat_of_zero_le hx.1
    refine ⟨j, by omega, rfl, ?_⟩
    have := (I.m2 j (by omega)).2 (Or.inl h)
    simp [this, I.br j h]

theorem pend_c (b : Int → Int) (n : Nat) : sel (fun j => g (st b n).p j == -2 && isC (b j)) n = (st b n).c := by
  have I := inv b n
  refine inc_ext (sel_inc n) (List.pairwise_append.1 I.inc).2.1 fun x => ?_
  rw [mem_sel]
  constructor
  · rintro ⟨j, h1, rfl, h3⟩
    simp at h3
    rcases (I.m2 j h1).1 h3.1 with h | h
    · have := isR_notC (I.br j h); rw [h3.2] at this; cases this
    · exact h
  · intro h
    have hx := I.ba.hc x h
    obtain ⟨j, rfl⟩ := Int.eq_ofNat_of_zero_le hx.1
    refine ⟨j, by omega, rfl, ?_⟩
    have := (I.m2 j (by omega)).2 (Or.inr h)
    simp [this, I.bc j h]

end Go.Proofs.Ytgfilbgjnloopaa.Th
namespace Go.Proofs.Ytgfilbgjnloopaa.Br
open Go.RowKit Go.Proofs.Ytgfilbgjnloopaa.P Go.Proofs.YtgfilbgjnloopaaW.PrintWords Go.Proofs.YtgfilbgjnloopaaW.PrintLast Go.Proofs.YtgfilbgjnloopaaW.PrintMore Go.Proofs.Ytgfilbgjnloopaa.Th
set_option linter.unusedVariables false
set_option linter.unusedSimpArgs false
theorem Ev.succ {α : Type} {g : Nat → Option α} {r : α} (h : Ev (fun k => g (k + 1)) r) : Ev g r := by
  obtain ⟨K, hK⟩ := h
  refine ⟨K + 1, fun k hk => ?_⟩
  obtain ⟨m, rfl⟩ : ∃ m, k = m + 1 := ⟨k - 1, by omega⟩
  exact hK m (by omega)
theorem Ev.done {α : Type} {r s : α} (h : r = s) : Ev (fun _ : Nat => some r) s := h ▸ Ev.now r
theorem w64 {x : Int} (h0 : -9223372036854775808 ≤ x) (h1 : x ≤ 9223372036854775807) : wrap64 x = x := by unfold wrap64; omega

/-- The number of a symbol, -1 if it is none. -/
def sym (b : Int) : Int := if b = 40 then 0 else if b = 91 then 1 else if b = 41 then 2 else if b = 93 then 3 else if b = 97 then 4 else if b = 98 then 5 else -1

def allFrom (f : Nat → Bool) : Nat → Nat → Bool
  | 0, _ => true
  | d + 1, i => f i && allFrom f d (i + 1)

/-- Is a text a word. -/
def okw (a : ByteArray) : Bool := allFrom (fun j => decide (0 ≤ sym (bt a j))) a.size 0 && decide ((a.size : Int) ≤ 60)

theorem bs0 : bt (⟨#[40, 91, 41, 93, 97, 98]⟩ : ByteArray) 0 = 40 := by decide
theorem bs1 : bt (⟨#[40, 91, 41, 93, 97, 98]⟩ : ByteArray) 1 = 91 := by decide
theorem bs2 : bt (⟨#[40, 91, 41, 93, 97, 98]⟩ : ByteArray) 2 = 41 := by decide
theorem bs3 : bt (⟨#[40, 91, 41, 93, 97, 98]⟩ : ByteArray) 3 = 93 := by decide
theorem bs4 : bt (⟨#[40, 91, 41, 93, 97, 98]⟩ : ByteArray) 4 = 97 := by decide
theorem bs5 : bt (⟨#[40, 91, 41, 93, 97, 98]⟩ : ByteArray) 5 = 98 := by decide

theorem symbol_ev (b : Int) : Ev (fun k => spec_l01Symbol.f k b) (sym b) := by
  unfold spec_l01Symbol.f sym
  have w1 : wrap64 (0 + 1) = 1 := by unfold wrap64; omega
  have w2 : wrap64 (1 + 1) = 2 := by unfold wrap64; omega
  have w3 : wrap64 (2 + 1) = 3 := by unfold wrap64; omega
  have w4 : wrap64 (3 + 1) = 4 := by unfold wrap64; omega
  have w5 : wrap64 (4 + 1) = 5 := by unfold wrap64; omega
  have w6 : wrap64 (5 + 1) = 6 := by unfold wrap64; omega
  refine Ev.succ ?_
  simp only [spec_l01Symbol.l0, bs0]
  by_cases h0 : b = 40
  · subst h0; exact Ev.done rfl
  rw [if_neg h0]
  simp only [if_neg (Ne.symm h0), w1]
  refine Ev.succ ?_
  simp only [spec_l01Symbol.l0, bs1]
  by_cases h0 : b = 91
  · subst h0; exact Ev.done rfl
  rw [if_neg h0]
  simp only [if_neg (Ne.symm h0), w2]
  refine Ev.succ ?_
  simp only [spec_l01Symbol.l0, bs2]
  by_cases h0 : b = 41
  · subst h0; exact Ev.done rfl
  rw [if_neg h0]
  simp only [if_neg (Ne.symm h0), w3]
  refine Ev.succ ?_
  simp only [spec_l01Symbol.l0, bs3]
  by_cases h0 : b = 93
  · subst h0; exact Ev.done rfl
  rw [if_neg h0]
  simp only [if_neg (Ne.symm h0), w4]
  refine Ev.succ ?_
  simp only [spec_l01Symbol.l0, bs4]
  by_cases h0 : b = 97
  · subst h0; exact Ev.done rfl
  rw [if_neg h0]
  simp only [if_neg (Ne.symm h0), w5]
  refine Ev.succ ?_
  simp only [spec_l01Symbol.l0, bs5]
  by_cases h0 : b = 98
  · subst h0; exact Ev.done rfl
  rw [if_neg h0]
  simp only [if_neg (Ne.symm h0), w6]
  refine Ev.succ ?_
  simp only [spec_l01Symbol.l0]
  exact Ev.done rfl

theorem index_eq {b : Int} (h0 : 0 ≤ b) (h1 : b ≤ 255) : strings_IndexByte.f (⟨#[40, 91, 41, 93, 97, 98]⟩ : ByteArray) b = some (sym b) := by
  obtain ⟨n, rfl⟩ := Int.eq_ofNat_of_zero_le h0
  have hn : n < 256 := by omega
  clear h0 h1
  unfold strings_IndexByte.f
  congr 1
  have key : ∀ n : Fin 256, Lib.indexByte (⟨#[40, 91, 41, 93, 97, 98]⟩ : ByteArray).data.toList ((n.val : Int).toNat.toUInt8) = sym (n.val : Int) := by decide +kernel
  exact key ⟨n, hn⟩

theorem specOk_loop (a : ByteArray) (hn : a.size ≤ 1048576) : ∀ d i : Nat, i + d = a.size →
    Ev (fun k => spec_l01Ok.l0 k a i) (allFrom (fun j => decide (0 ≤ sym (bt a j))) d i && decide ((a.size : Int) ≤ 60)) := by
  intro d
  induction d with
  | zero =>
    intro i hi
    refine Ev.succ ?_
    simp only [spec_l01Ok.l0, if_neg (show ¬ (i : Int) < (a.size : Int) by omega), allFrom, Bool.true_and]
    exact Ev.done rfl
  | succ d ih =>
    intro i hi
    refine Ev.succ ?_
    simp only [spec_l01Ok.l0, if_pos (show (i : Int) < (a.size : Int) by omega), if_pos (show (0 : Int) ≤ (i : Int) by omega), allFrom]
    refine Ev.bind (symbol_ev _) ?_
    rw [w64 (by omega) (by omega)]
    by_cases h : sym (bt a i) < 0
    · simp only [if_pos h]
      exact Ev.done (by simp; omega)
    · simp only [if_neg h]
      have := ih (i + 1) (by omega)
      simpa [show 0 ≤ sym (bt a i) by omega] using this

theorem specOk_ev (a : ByteArray) (hn : a.size ≤ 1048576) : Ev (fun k => spec_l01Ok.f k a) (okw a) := specOk_loop a hn a.size 0 (by omega)

theorem valid_loop (a : ByteArray) (hn : a.size ≤ 1048576) : ∀ d i : Nat, i + d = a.size →
    Ev (fun k => impl_ValidWord.l0 k a a.size i) (allFrom (fun j => decide (0 ≤ sym (bt a j))) d i && decide ((a.size : Int) ≤ 60)) := by
  intro d
  induction d with
  | zero =>
    intro i hi
    refine Ev.succ ?_
    simp only [impl_ValidWord.l0, if_neg (show ¬ (i : Int) < (a.size : Int) by omega), allFrom, Bool.true_and]
    exact Ev.done rfl
  | succ d ih =>
    intro i hi
    refine Ev.succ ?_
    have hb := bt_range a i
    simp only [impl_ValidWord.l0, if_pos (show (i : Int) < (a.size : Int) by omega), if_pos (show (0 : Int) ≤ (i : Int) by omega), allFrom, index_eq hb.1 hb.2, Option.bind_some]
    rw [w64 (by omega) (by omega)]
    by_cases h : sym (bt a i) < 0
    · simp only [if_pos h]
      exact Ev.done (by simp; omega)
    · simp only [if_neg h]
      have := ih (i + 1) (by omega)
      simpa [show 0 ≤ sym (bt a i) by omega] using this

theorem valid_ev (a : ByteArray) (hn : a.size ≤ 1048576) : Ev (fun k => impl_ValidWord.f k a) (okw a) := valid_loop a hn a.size 0 (by omega)

end Go.Proofs.Ytgfilbgjnloopaa.Br
namespace Go.Proofs.Ytgfilbgjnloopaa.Br
open Go.RowKit Go.Proofs.Ytgfilbgjnloopaa.P Go.Proofs.YtgfilbgjnloopaaW.PrintWords Go.Proofs.YtgfilbgjnloopaaW.PrintLast Go.Proofs.YtgfilbgjnloopaaW.PrintMore Go.Proofs.Ytgfilbgjnloopaa.Th
set_option linter.unusedVariables false
set_option linter.unusedSimpArgs false
theorem down {P : Nat → Prop} (n : Nat) (h0 : P n) (h1 : ∀ i, i < n → P (i + 1) → P i) : ∀ i, i ≤ n → P i := by
  have key : ∀ d i, i + d = n → P i := by
    intro d
    induction d with
    | zero => intro i hi; obtain rfl : i = n := by omega
              exact h0
    | succ d ih => intro i hi; exact h1 i (by omega) (ih (i + 1) (by omega))
  intro i hi
  exact key (n - i) i (by omega)
theorem up1 (i : Nat) (h : i < 9223372036854775807) : wrap64 ((i : Int) + 1) = ((i + 1 : Nat) : Int) := by
  rw [w64 (by omega) (by omega)]; rfl
theorem ilt {i n : Nat} (h : i < n) : (i : Int) < (n : Int) := by omega
theorem inlt {n : Nat} : ¬ ((n : Int) < (n : Int)) := by omega
theorem i0 (i : Nat) : 0 ≤ (i : Int) := by omega
theorem getD_mem {α : Type} (l : List α) (i : Nat) (d : α) (h : i < l.length) : l.getD i d ∈ l := by
  rw [List.getD_eq_getElem?_getD, List.getElem?_eq_getElem h]
  exact List.getElem_mem h
theorem take1 (a : Int) (n : Nat) (h0 : 0 ≤ a) (h1 : a ≤ 1048576) (hn : n ≤ 9223372036854775807) : wrap64 (a - (n : Int)) = a - (n : Int) := w64 (by omega) (by omega)

/-! ### loops, plainly -/
def allN (n : Nat) (e : Nat → Bool) : Bool := (List.range n).all e
def eqv {α : Type} (e : α → α → Bool) (d : α) (x y : List α) : Bool := decide (x.length = y.length) && allN x.length (fun i => e (x.getD i d) (y.getD i d))
theorem allN_true {n : Nat} {e : Nat → Bool} (h : ∀ i, i < n → e i = true) : allN n e = true := by
  unfold allN
  rw [List.all_eq_true]
  intro i hi
  exact h i (List.mem_range.1 hi)
theorem eqv_self {α : Type} (e : α → α → Bool) (d : α) (x : List α) (h : ∀ a ∈ x, e a a = true) : eqv e d x x = true := by
  unfold eqv
  rw [decide_eq_true rfl, Bool.true_and]
  exact allN_true (fun i hi => h _ (getD_mem x i d hi))
def allFromN (n : Nat) (e : Nat → Bool) : Nat → Bool
  | i => (List.range n).all fun j => decide (j < i) || e j
theorem allFromN_zero (n : Nat) (e : Nat → Bool) : allFromN n e 0 = allN n e := by
  unfold allFromN allN
  simp
theorem allFromN_end (n : Nat) (e : Nat → Bool) : allFromN n e n = true := by
  unfold allFromN
  rw [List.all_eq_true]
  intro j hj
  simp [List.mem_range.1 hj]
theorem allFromN_step (n : Nat) (e : Nat → Bool) (i : Nat) (hi : i < n) : allFromN n e i = (e i && allFromN n e (i + 1)) := by
  unfold allFromN
  apply Bool.eq_iff_iff.2
  rw [Bool.and_eq_true, List.all_eq_true, List.all_eq_true]
  constructor
  · intro H
    refine ⟨by simpa using H i (List.mem_range.2 hi), fun j hj => ?_⟩
    have := H j hj
    simp only [Bool.or_eq_true, decide_eq_true_eq] at this ⊢
    rcases this with h1 | h1
    · exact .inl (by omega)
    · exact .inr h1
  · rintro ⟨H0, H⟩ j hj
    have := H j hj
    simp only [Bool.or_eq_true, decide_eq_true_eq] at this ⊢
    by_cases h : j = i
    · subst h; exact .inr H0
    · rcases this with h1 | h1
      · exact .inl (by omega)
      · exact .inr h1
theorem allLoop (n : Nat) (L : Nat → Nat → Option Bool) (e : Nat → Bool) (hend : Ev (L n) true) (hs : ∀ i, i < n → ∀ r, Ev (L (i + 1)) r → Ev (L i) (e i && r)) : Ev (L 0) (allN n e) := by
  rw [← allFromN_zero]
  refine down (P := fun i => Ev (L i) (allFromN n e i)) n ?_ ?_ 0 (by omega)
  · show Ev (L n) (allFromN n e n)
    rw [allFromN_end]; exact hend
  · intro i hi ih
    show Ev (L i) (allFromN n e i)
    rw [allFromN_step n e i hi]
    exact hs i hi _ ih
theorem andEv {g : Nat → Option Bool} {a r : Bool} {f : Nat → Option Bool} (h : Ev g a) (k : Ev f r) : Ev (fun n => (g n).bind fun t => if t = true then f n else some false) (a && r) := by
  refine Ev.bind h ?_
  cases a with
  | true => simp only [if_true, Bool.true_and]; exact k
  | false => simp only [Bool.false_eq_true, if_false, Bool.false_and]; exact Ev.now _
theorem iteEv {a r : Bool} {f : Nat → Option Bool} (k : Ev f r) : Ev (fun n => if a = true then f n else some false) (a && r) := by
  cases a with
  | true => simp only [if_true, Bool.true_and]; exact k
  | false => simp only [Bool.false_eq_true, if_false, Bool.false_and]; exact Ev.now _
theorem notEv {a r : Bool} {f : Nat → Option Bool} (k : Ev f r) : Ev (fun n => if a = true then some false else f n) (!a && r) := by
  cases a with
  | false => simp only [Bool.false_eq_true, if_false, Bool.not_false, Bool.true_and]; exact k
  | true => simp only [if_true, Bool.not_true, Bool.false_and]; exact Ev.now _
theorem eqEv {a b : Int} {r : Bool} {f : Nat → Option Bool} (k : Ev f r) : Ev (fun n => if a = b then f n else some false) (a == b && r) := by
  by_cases h : a = b
  · subst h; simp only [if_true, beq_self_eq_true, Bool.true_and]; exact k
  · simp only [if_neg h, beq_false_of_ne h, Bool.false_and]; exact Ev.now _
theorem lenEv {m n : Nat} {r : Bool} {f : Nat → Option Bool} (k : m = n → Ev f r) : Ev (fun q => if (m : Int) = (n : Int) then f q else some false) (decide (m = n) && r) := by
  by_cases h : m = n
  · simp only [if_pos (show (m : Int) = (n : Int) by omega), decide_eq_true h, Bool.true_and]; exact k h
  · simp only [if_neg (show ¬ (m : Int) = (n : Int) by omega), decide_eq_false h, Bool.false_and]; exact Ev.now _
theorem toLoop {β : Type} (n : Nat) (L : Nat → List β → Nat → Option (List β)) (v : List β) (d : β) (hv : v.length = n) (hend : ∀ o, Ev (L n o) o)
    (hs : ∀ i o, i < n → o.length = n → Ev (L (i + 1) (o.set i (v.getD i d))) v → Ev (L i o) v) : ∀ o, o.length = n → Ev (L 0 o) v := by
  have key : ∀ i, i ≤ n → ∀ o, o.length = n → o.take i = v.take i → Ev (L i o) v := by
    refine down n ?_ ?_
    · intro o ho ht
      have : o = v := by rw [← List.take_length (l := o), ho, ht, List.take_of_length_le (by omega)]
      subst this
      exact hend o
    · intro i hi ih o ho ht
      refine hs i o hi ho (ih _ (by simpa using ho) ?_)
      rw [List.take_add_one, List.take_add_one, List.take_set_of_le (by omega), ht, List.getElem?_set_self (by omega), List.getElem?_eq_getElem (show i < v.length by omega), List.getD_eq_getElem?_getD, List.getElem?_eq_getElem (show i < v.length by omega)]
      rfl
  intro o ho
  exact key 0 (by omega) o ho (by simp)
theorem szLoop {α : Type} (l : List α) (d : α) (ok : α → Prop) (L : Nat → Int → Nat → Option Int) (hend : ∀ a, Ev (L l.length a) a)
    (hs : ∀ i, i < l.length → ∀ a, 0 ≤ a → a ≤ 1048576 → Ev (L i a) (-1) ∨ (ok (l.getD i d) ∧ ∃ b, 0 ≤ b ∧ b ≤ a ∧ ∀ r, Ev (L (i + 1) b) r → Ev (L i a) r)) :
    ∀ a, 0 ≤ a → a ≤ 1048576 → ∃ r, Ev (L 0 a) r ∧ (r < 0 ∨ (0 ≤ r ∧ r ≤ a ∧ ∀ x ∈ l, ok x)) := by
  have key : ∀ i, i ≤ l.length → ∀ a, 0 ≤ a → a ≤ 1048576 → ∃ r, Ev (L i a) r ∧ (r < 0 ∨ (0 ≤ r ∧ r ≤ a ∧ ∀ j, i ≤ j → j < l.length → ok (l.getD j d))) := by
    refine down l.length ?_ ?_
    · intro a h0 h1
      exact ⟨a, hend a, .inr ⟨h0, by omega, fun j _ _ => by omega⟩⟩
    · intro i hi ih a h0 h1
      rcases hs i hi a h0 h1 with h | ⟨ho, b, b0, b1, h⟩
      · exact ⟨-1, h, .inl (by omega)⟩
      · obtain ⟨r, hr, hr2⟩ := ih b b0 (by omega)
        refine ⟨r, h r hr, ?_⟩
        rcases hr2 with h2 | ⟨q0, q1, q2⟩
        · exact .inl h2
        · refine .inr ⟨q0, by omega, fun j hj hj2 => ?_⟩
          by_cases e : j = i
          · subst e; exact ho
          · exact q2 j (by omega) hj2
  intro a h0 h1
  obtain ⟨r, hr, hr2⟩ := key 0 (by omega) a h0 h1
  refine ⟨r, hr, ?_⟩
  rcases hr2 with h2 | ⟨q0, q1, q2⟩
  · exact .inl h2
  · refine .inr ⟨q0, q1, fun x hx => ?_⟩
    obtain ⟨j, hj⟩ := List.getElem?_of_mem hx
    have := q2 j (by omega) (List.getElem?_eq_some_iff.1 hj).1
    rwa [List.getD_eq_getElem?_getD, hj] at this
end Go.Proofs.Ytgfilbgjnloopaa.Br
namespace Go.Proofs.Ytgfilbgjnloopaa.Br
open Go.RowKit Go.Proofs.Ytgfilbgjnloopaa.P Go.Proofs.YtgfilbgjnloopaaW.PrintWords Go.Proofs.YtgfilbgjnloopaaW.PrintLast Go.Proofs.YtgfilbgjnloopaaW.PrintMore Go.Proofs.Ytgfilbgjnloopaa.Th
set_option linter.unusedVariables false
set_option linter.unusedSimpArgs false
def eint (a b : Int) : Bool := a == b
def ebool (a b : Bool) : Bool := !(a != b)
/-- How long a row is, and those inside. -/
def sm0 {α : Type} (l : List α) : Prop := l.length ≤ 1048576
def sm1 {α : Type} (l : List (List α)) : Prop := l.length ≤ 1048576 ∧ ∀ x ∈ l, sm0 x
theorem laws_eqInt64S_ev (x y : List Int) (hx : sm0 x) : Ev (fun k => laws_eqInt64S.f k x y) (eqv eint 0 x y) := by
  have hl : x.length ≤ 1048576 := hx
  unfold laws_eqInt64S.f eqv
  refine lenEv (fun h => allLoop x.length (fun i k => laws_eqInt64S.l0 k x y (i : Int)) _ ?_ ?_)
  · refine Ev.succ ?_
    simp only [laws_eqInt64S.l0, if_neg inlt]
    exact Ev.now _
  · intro i hi r hr
    refine Ev.succ ?_
    simp only [laws_eqInt64S.l0, if_pos (ilt hi), if_pos (i0 i), if_pos (ilt (show i < y.length by omega)), up1 i (by omega)]
    exact eqEv hr

theorem laws_eqBoolS_ev (x y : List Bool) (hx : sm0 x) : Ev (fun k => laws_eqBoolS.f k x y) (eqv ebool false x y) := by
  have hl : x.length ≤ 1048576 := hx
  unfold laws_eqBoolS.f eqv
  refine lenEv (fun h => allLoop x.length (fun i k => laws_eqBoolS.l0 k x y (i : Int)) _ ?_ ?_)
  · refine Ev.succ ?_
    simp only [laws_eqBoolS.l0, if_neg inlt]
    exact Ev.now _
  · intro i hi r hr
    refine Ev.succ ?_
    simp only [laws_eqBoolS.l0, if_pos (ilt hi), if_pos (i0 i), if_pos (ilt (show i < y.length by omega)), up1 i (by omega)]
    exact notEv hr

theorem laws_eqInt64SS_ev (x y : List (List Int)) (hx : sm1 x) : Ev (fun k => laws_eqInt64SS.f k x y) (eqv (eqv eint 0) ([] : (List Int)) x y) := by
  have hl : x.length ≤ 1048576 := hx.1
  unfold laws_eqInt64SS.f eqv
  refine lenEv (fun h => allLoop x.length (fun i k => laws_eqInt64SS.l0 k x y (i : Int)) _ ?_ ?_)
  · refine Ev.succ ?_
    simp only [laws_eqInt64SS.l0, if_neg inlt]
    exact Ev.now _
  · intro i hi r hr
    refine Ev.succ ?_
    simp only [laws_eqInt64SS.l0, if_pos (ilt hi), if_pos (i0 i), if_pos (ilt (show i < y.length by omega)), up1 i (by omega)]
    exact andEv (laws_eqInt64S_ev _ _ (hx.2 _ (getD_mem x i _ hi))) hr

end Go.Proofs.Ytgfilbgjnloopaa.Br
namespace Go.Proofs.Ytgfilbgjnloopaa.Br
open Go.RowKit Go.Proofs.Ytgfilbgjnloopaa.P Go.Proofs.YtgfilbgjnloopaaW.PrintWords Go.Proofs.YtgfilbgjnloopaaW.PrintLast Go.Proofs.YtgfilbgjnloopaaW.PrintMore Go.Proofs.Ytgfilbgjnloopaa.Th
set_option linter.unusedVariables false
set_option linter.unusedSimpArgs false
theorem laws_toInt64S_ev (l : List Int) (hl : sm0 l) : Ev (fun k => laws_toInt64S.f k l) l := by
  have hl' : l.length ≤ 1048576 := hl
  unfold laws_toInt64S.f
  simp only [if_pos (i0 l.length), Int.toNat_natCast, if_pos (show l.length ≤ 35184372088832 by omega)]
  refine toLoop l.length (fun i o k => laws_toInt64S.l0 k l o i) l 0 rfl ?_ ?_ _ (by simp)
  · intro o
    refine Ev.succ ?_
    simp only [laws_toInt64S.l0, if_neg inlt]
    exact Ev.now _
  · intro i o hi ho h
    refine Ev.succ ?_
    simp only [laws_toInt64S.l0, if_pos (ilt hi), if_pos (i0 i), if_pos (ilt (show i < o.length by omega)), up1 i (by omega), Int.toNat_natCast]
    exact h
theorem laws_toBoolS_ev (l : List Bool) (hl : sm0 l) : Ev (fun k => laws_toBoolS.f k l) l := by
  have hl' : l.length ≤ 1048576 := hl
  unfold laws_toBoolS.f
  simp only [if_pos (i0 l.length), Int.toNat_natCast, if_pos (show l.length ≤ 281474976710656 by omega)]
  refine toLoop l.length (fun i o k => laws_toBoolS.l0 k l o i) l false rfl ?_ ?_ _ (by simp)
  · intro o
    refine Ev.succ ?_
    simp only [laws_toBoolS.l0, if_neg inlt]
    exact Ev.now _
  · intro i o hi ho h
    refine Ev.succ ?_
    simp only [laws_toBoolS.l0, if_pos (ilt hi), if_pos (i0 i), if_pos (ilt (show i < o.length by omega)), up1 i (by omega), Int.toNat_natCast]
    exact h
theorem laws_toInt64SS_ev (l : List (List Int)) (hl : sm1 l) : Ev (fun k => laws_toInt64SS.f k l) l := by
  have hl' : l.length ≤ 1048576 := hl.1
  unfold laws_toInt64SS.f
  simp only [if_pos (i0 l.length), Int.toNat_natCast, if_pos (show l.length ≤ 11728124029610 by omega)]
  refine toLoop l.length (fun i o k => laws_toInt64SS.l0 k l o i) l [] rfl ?_ ?_ _ (by simp)
  · intro o
    refine Ev.succ ?_
    simp only [laws_toInt64SS.l0, if_neg inlt]
    exact Ev.now _
  · intro i o hi ho h
    refine Ev.succ ?_
    simp only [laws_toInt64SS.l0, if_pos (ilt hi), if_pos (i0 i), if_pos (ilt (show i < o.length by omega)), up1 i (by omega), Int.toNat_natCast]
    exact Ev.bind (laws_toInt64S_ev (l.getD i []) (hl.2 _ (getD_mem l i _ hi))) h
theorem eint_self (a : Int) : eint a a = true := by simp [eint]
theorem ebool_self (a : Bool) : ebool a a = true := by simp [ebool]
theorem laws_szBoolS_ev (l : List Bool) (a : Int) (h0 : 0 ≤ a) (h1 : a ≤ 1048576) (hl : l.length ≤ 9223372036854775807) : ∃ r, laws_szBoolS.f l a = some r ∧ (r < 0 ∨ (0 ≤ r ∧ r ≤ a ∧ sm0 l)) := by
  unfold laws_szBoolS.f
  rw [take1 a _ h0 h1 hl]
  by_cases h : a - (l.length : Int) < 0
  · exact ⟨-1, by rw [if_pos h], .inl (by omega)⟩
  · exact ⟨_, by rw [if_neg h], .inr ⟨by omega, by omega, by show l.length ≤ 1048576; omega⟩⟩
theorem laws_szInt64S_ev (l : List Int) (a : Int) (h0 : 0 ≤ a) (h1 : a ≤ 1048576) (hl : l.length ≤ 9223372036854775807) : ∃ r, laws_szInt64S.f l a = some r ∧ (r < 0 ∨ (0 ≤ r ∧ r ≤ a ∧ sm0 l)) := by
  unfold laws_szInt64S.f
  rw [take1 a _ h0 h1 hl]
  by_cases h : a - (l.length : Int) < 0
  · exact ⟨-1, by rw [if_pos h], .inl (by omega)⟩
  · exact ⟨_, by rw [if_neg h], .inr ⟨by omega, by omega, by show l.length ≤ 1048576; omega⟩⟩
theorem laws_szInt64SS_ev (l : List (List Int)) (a : Int) (h0 : 0 ≤ a) (h1 : a ≤ 1048576) (hl : l.length ≤ 9223372036854775807) (hi : ∀ x ∈ l, x.length ≤ 9223372036854775807) :
    ∃ r, Ev (fun k => laws_szInt64SS.f k l a) r ∧ (r < 0 ∨ (0 ≤ r ∧ r ≤ a ∧ sm1 l)) := by
  unfold laws_szInt64SS.f
  rw [take1 a _ h0 h1 hl]
  by_cases h : a - (l.length : Int) < 0
  · exact ⟨-1, by simp only [if_pos h]; exact Ev.now _, .inl (by omega)⟩
  · obtain ⟨r, hr, hr2⟩ := szLoop l [] sm0 (fun i c k => laws_szInt64SS.l0 k l c i) (fun c => by
        refine Ev.succ ?_
        simp only [laws_szInt64SS.l0, if_neg inlt]
        exact Ev.now _) (fun i hi' c c0 c1 => by
        have hm := getD_mem l i [] hi'
        obtain ⟨r, hr, hr2⟩ := laws_szInt64S_ev (l.getD i []) c c0 c1 (hi _ hm)
        by_cases hn : r < 0
        · refine .inl (Ev.succ ?_)
          simp only [laws_szInt64SS.l0, if_pos (ilt hi'), if_pos (i0 i)]
          exact Ev.bind ⟨0, fun _ _ => hr⟩ (by simp only [if_pos hn]; exact Ev.now _)
        · rcases hr2 with h2 | ⟨q0, q1, q2⟩
          · exact absurd h2 hn
          · refine .inr ⟨q2, r, q0, q1, fun s hs => Ev.succ ?_⟩
            simp only [laws_szInt64SS.l0, if_pos (ilt hi'), if_pos (i0 i), up1 i (by omega)]
            exact Ev.bind ⟨0, fun _ _ => hr⟩ (by simp only [if_neg hn]; exact hs)) (a - (l.length : Int)) (by omega) (by omega)
    refine ⟨r, by simp only [if_neg h]; exact hr, ?_⟩
    rcases hr2 with h2 | ⟨q0, q1, q2⟩
    · exact .inl h2
    · exact .inr ⟨q0, by omega, ⟨by omega, q2⟩⟩
end Go.Proofs.Ytgfilbgjnloopaa.Br
namespace Go.Proofs.Ytgfilbgjnloopaa.Br
open Go.RowKit Go.Proofs.Ytgfilbgjnloopaa.P Go.Proofs.YtgfilbgjnloopaaW.PrintWords Go.Proofs.YtgfilbgjnloopaaW.PrintLast Go.Proofs.YtgfilbgjnloopaaW.PrintMore Go.Proofs.Ytgfilbgjnloopaa.Th
set_option linter.unusedVariables false
set_option linter.unusedSimpArgs false
theorem laws_szAlgebra_ev (l0 l1 : List (List Int)) (l2 : List Int) (l3 : List Bool) (c : Int) (h0 : 0 ≤ c) (h1 : c ≤ 1048576)
    (g0 : l0.length ≤ 9223372036854775807 ∧ ∀ x ∈ l0, x.length ≤ 9223372036854775807) (g1 : l1.length ≤ 9223372036854775807 ∧ ∀ x ∈ l1, x.length ≤ 9223372036854775807)
    (g2 : l2.length ≤ 9223372036854775807) (g3 : l3.length ≤ 9223372036854775807) :
    ∃ r, Ev (fun k => laws_szAlgebra.f k l0 l1 l2 l3 c) r ∧ (r < 0 ∨ (0 ≤ r ∧ r ≤ c ∧ sm1 l0 ∧ sm1 l1 ∧ sm0 l2 ∧ sm0 l3)) := by
  unfold laws_szAlgebra.f
  obtain ⟨r2, e2, q2⟩ := laws_szInt64SS_ev l0 c h0 h1 g0.1 g0.2
  by_cases n2 : r2 < 0
  · exact ⟨-1, Ev.bind e2 (by simp only [if_pos n2]; exact Ev.now _), .inl (by omega)⟩
  obtain ⟨r3, e3, q3⟩ := laws_szInt64SS_ev l1 r2 (by omega) (by omega) g1.1 g1.2
  by_cases n3 : r3 < 0
  · exact ⟨-1, Ev.bind e2 (by simp only [if_neg n2]; exact Ev.bind e3 (by simp only [if_pos n3]; exact Ev.now _)), .inl (by omega)⟩
  obtain ⟨r4, e4, q4⟩ := laws_szInt64S_ev l2 r3 (by omega) (by omega) g2
  by_cases n4 : r4 < 0
  · exact ⟨-1, Ev.bind e2 (by simp only [if_neg n2]; exact Ev.bind e3 (by simp only [if_neg n3]; exact Ev.bind ⟨0, fun _ _ => e4⟩ (by simp only [if_pos n4]; exact Ev.now _))), .inl (by omega)⟩
  obtain ⟨r5, e5, q5⟩ := laws_szBoolS_ev l3 r4 (by omega) (by omega) g3
  by_cases n5 : r5 < 0
  · exact ⟨-1, Ev.bind e2 (by simp only [if_neg n2]; exact Ev.bind e3 (by simp only [if_neg n3]; exact Ev.bind ⟨0, fun _ _ => e4⟩ (by simp only [if_neg n4]; exact Ev.bind ⟨0, fun _ _ => e5⟩ (by simp only [if_pos n5]; exact Ev.now _)))), .inl (by omega)⟩
  · refine ⟨r5, Ev.bind e2 (by simp only [if_neg n2]; exact Ev.bind e3 (by simp only [if_neg n3]; exact Ev.bind ⟨0, fun _ _ => e4⟩ (by simp only [if_neg n4]; exact Ev.bind ⟨0, fun _ _ => e5⟩ (by simp only [if_neg n5]; exact Ev.now _)))), .inr ?_⟩
    rcases q2 with q2 | q2
    · omega
    rcases q3 with q3 | q3
    · omega
    rcases q4 with q4 | q4
    · omega
    rcases q5 with q5 | q5
    · omega
    exact ⟨by omega, by omega, q2.2.2, q3.2.2, q4.2.2, q5.2.2⟩
theorem laws_toAlgebra_ev (l0 l1 : List (List Int)) (l2 : List Int) (l3 : List Bool) (h0 : sm1 l0) (h1 : sm1 l1) (h2 : sm0 l2) (h3 : sm0 l3) :
    Ev (fun k => laws_toAlgebra.f k l0 l1 l2 l3) (l0, l1, l2, l3) := by
  unfold laws_toAlgebra.f
  exact Ev.bind (laws_toInt64SS_ev l0 h0) (Ev.bind (laws_toInt64SS_ev l1 h1) (Ev.bind (laws_toInt64S_ev l2 h2) (Ev.bind (laws_toBoolS_ev l3 h3) (Ev.now _))))
theorem laws_eqAlgebra_ev (l0 l1 : List (List Int)) (l2 : List Int) (l3 : List Bool) (h0 : sm1 l0) (h1 : sm1 l1) (h2 : sm0 l2) (h3 : sm0 l3) :
    Ev (fun k => laws_eqAlgebra.f k l0 l1 l2 l3 l0 l1 l2 l3) true := by
  unfold laws_eqAlgebra.f
  have e0 := laws_eqInt64SS_ev l0 l0 h0
  rw [eqv_self _ _ _ (fun a _ => eqv_self _ _ _ (fun a _ => eint_self a))] at e0
  have e1 := laws_eqInt64SS_ev l1 l1 h1
  rw [eqv_self _ _ _ (fun a _ => eqv_self _ _ _ (fun a _ => eint_self a))] at e1
  have e2 := laws_eqInt64S_ev l2 l2 h2
  rw [eqv_self _ _ _ (fun a _ => eint_self a)] at e2
  have e3 := laws_eqBoolS_ev l3 l3 h3
  rw [eqv_self _ _ _ (fun a _ => ebool_self a)] at e3
  refine Ev.bind e0 ?_
  simp only [if_true]
  refine Ev.bind e1 ?_
  simp only [if_true]
  refine Ev.bind e2 ?_
  simp only [if_true]
  refine Ev.bind e3 ?_
  simp only [if_true]
  exact Ev.now _
end Go.Proofs.Ytgfilbgjnloopaa.Br
namespace Go.Proofs.Ytgfilbgjnloopaa.Br
open Go.RowKit Go.Proofs.Ytgfilbgjnloopaa.P Go.Proofs.YtgfilbgjnloopaaW.PrintWords Go.Proofs.YtgfilbgjnloopaaW.PrintLast Go.Proofs.YtgfilbgjnloopaaW.PrintMore Go.Proofs.Ytgfilbgjnloopaa.Th
set_option linter.unusedVariables false
set_option linter.unusedSimpArgs false
theorem allFrom_iff {f : Nat → Bool} : ∀ {d i : Nat}, allFrom f d i = true ↔ ∀ j, i ≤ j → j < i + d → f j = true
  | 0, i => by simp [allFrom]; omega
  | d + 1, i => by
    unfold allFrom
    rw [Bool.and_eq_true, allFrom_iff]
    constructor
    · rintro ⟨h1, h2⟩ j hj hj2
      by_cases h : j = i
      · subst h; exact h1
      · exact h2 j (by omega) (by omega)
    · intro h
      exact ⟨h i (by omega) (by omega), fun j h1 h2 => h j (by omega) (by omega)⟩

theorem okw_iff {a : ByteArray} : okw a = true ↔ (∀ j : Nat, j < a.size → 0 ≤ sym (bt a j)) ∧ a.size ≤ 60 := by
  unfold okw
  rw [Bool.and_eq_true, allFrom_iff]
  simp
  intro _
  omega

theorem okw_size {a : ByteArray} (h : okw a = true) : a.size ≤ 60 := (okw_iff.1 h).2
theorem okw_sym {a : ByteArray} (h : okw a = true) {j : Nat} (hj : j < a.size) : 0 ≤ sym (bt a j) := (okw_iff.1 h).1 j hj

theorem bt_lt {a : ByteArray} {j : Nat} (h : j < a.size) : bt a j = (a[j].toNat : Int) := by
  unfold bt; simp [h]
theorem bt_extract (a : ByteArray) {i e j : Nat} (he : e ≤ a.size) (hj : j < e - i) : bt (a.extract i e) j = bt a ((i + j : Nat) : Int) := by
  rw [bt_lt (by rw [ByteArray.size_extract]; omega), bt_lt (by omega), ByteArray.getElem_extract]

end Go.Proofs.Ytgfilbgjnloopaa.Br
namespace Go.Proofs.Ytgfilbgjnloopaa.Br
open Go.RowKit Go.Proofs.Ytgfilbgjnloopaa.P Go.Proofs.YtgfilbgjnloopaaW.PrintWords Go.Proofs.YtgfilbgjnloopaaW.PrintLast Go.Proofs.YtgfilbgjnloopaaW.PrintMore Go.Proofs.Ytgfilbgjnloopaa.Th
set_option linter.unusedVariables false
set_option linter.unusedSimpArgs false
theorem isReturn_eq (b : Int) : impl_isReturn.f b = some (isR b) := by
  unfold impl_isReturn.f isR
  by_cases h : b = 41 <;> simp [h]
theorem isCall_eq (b : Int) : impl_isCall.f b = some (isC b) := by
  unfold impl_isCall.f isC
  by_cases h : b = 40 <;> simp [h]
theorem sReturn_eq (b : Int) : spec_l01Return.f b = some (isR b) := by
  unfold spec_l01Return.f isR
  by_cases h : b = 41 <;> simp [h]
theorem sCall_eq (b : Int) : spec_l01Call.f b = some (isC b) := by
  unfold spec_l01Call.f isC
  by_cases h : b = 40 <;> simp [h]

theorem rd_last {c : List Int} (h : c ≠ []) : rd c ((c.length : Int) - 1) = top c := by
  unfold rd top
  have : 0 < c.length := List.length_pos_iff.2 h
  rw [List.getLast?_eq_getElem?, List.getD_eq_getElem?_getD, show ((c.length : Int) - 1).toNat = c.length - 1 by omega, List.getElem?_eq_getElem (by omega)]
  rfl

theorem top_nil {c : List Int} (h : c = []) : top c = -1 := by subst h; rfl
theorem take_last {c : List Int} : c.take ((c.length : Int) - 1).toNat = c.dropLast := by
  rw [List.dropLast_eq_take, show ((c.length : Int) - 1).toNat = c.length - 1 by omega]

/-- From the head of j2 on: the parent is told, a call is put on the stack, the rows grow. -/
theorem match_j2 (a : ByteArray) (hn : a.size ≤ 1048576) (i : Nat) (hi : i < a.size) (x6 : Int) (p r c d q : List Int) (R : List Int × List Int × List Int × List Int × List Int)
    (lp : p.length ≤ i) (lr : r.length ≤ i + 1) (lc : c.length ≤ i) (ld : d.length ≤ i + 1) (lq : q.length ≤ i)
    (h : if isC (bt a i) = true then Ev (fun k => impl_match.l0 k a a.size (i + 1 : Nat) (p ++ [-2]) r (c ++ [(i : Int)]) (d ++ [(c.length : Int) + 1]) (q ++ [top c])) R
         else Ev (fun k => impl_match.l0 k a a.size (i + 1 : Nat) (p ++ [x6]) r c (d ++ [(c.length : Int)]) (q ++ [top c])) R) :
    Ev (fun k => impl_match.j2 k a i i x6 a.size i p r c d q) R := by
  have j3 : Ev (fun k => impl_match.j3 k a i i x6 (top c) a.size i p r c d q) R := by
    refine Ev.succ ?_
    simp only [impl_match.j3, if_pos (show (0 : Int) ≤ (i : Int) by omega), if_pos (show (i : Int) < (a.size : Int) by omega), isCall_eq, Option.bind_some]
    have j4 : ∀ (x : Int) (c2 : List Int), c2.length ≤ i + 1 → Ev (fun k => impl_match.l0 k a a.size (i + 1 : Nat) (p ++ [x]) r c2 (d ++ [(c2.length : Int)]) (q ++ [top c])) R → Ev (fun k => impl_match.j4 k a x (top c) a.size i p r c2 d q) R := by
      intro x c2 l2 h2
      refine Ev.succ ?_
      simp only [impl_match.j4, Option.bind_some, impl_size_int64.f, List.length_cons, List.length_nil]
      rw [w64 (by omega) (by omega)]
      simp only [if_pos (show p.length + (0 + 1) < 17592186044416 by omega), if_pos (show q.length + (0 + 1) < 17592186044416 by omega), if_pos (show d.length + (0 + 1) < 17592186044416 by omega)]
      exact h2
    by_cases hC : isC (bt a i) = true
    · simp only [hC, if_true, List.length_cons, List.length_nil, if_pos (show c.length + (0 + 1) < 17592186044416 by omega)] at h ⊢
      refine j4 (-2) (c ++ [(i : Int)]) (by simp; omega) ?_
      simpa using h
    · simp only [if_neg hC] at h ⊢
      exact j4 x6 c (by omega) h
  refine Ev.succ ?_
  simp only [impl_match.j2]
  by_cases hc : c = []
  · simp only [if_neg (show ¬ (c.length : Int) > 0 by simp [hc])]
    rw [top_nil hc] at j3
    exact j3
  · have : 0 < c.length := List.length_pos_iff.2 hc
    rw [w64 (by omega) (by omega)]
    simp only [if_pos (show (c.length : Int) > 0 by omega), if_pos (show 0 ≤ (c.length : Int) - 1 by omega), if_pos (show (c.length : Int) - 1 < (c.length : Int) by omega), rd_last hc]
    exact j3

theorem match_loop (a : ByteArray) (hn : a.size ≤ 1048576) : ∀ d i : Nat, i + d = a.size →
    Ev (fun k => impl_match.l0 k a a.size i (st (bt a) i).p (st (bt a) i).r (st (bt a) i).c (st (bt a) i).d (st (bt a) i).q)
      ((st (bt a) a.size).p, (st (bt a) a.size).r, (st (bt a) a.size).c, (st (bt a) a.size).d, (st (bt a) a.size).q) := by
  intro d
  induction d with
  | zero =>
    intro i hi
    obtain rfl : i = a.size := by omega
    refine Ev.succ ?_
    simp only [impl_match.l0, if_neg (show ¬ (a.size : Int) < (a.size : Int) by omega)]
    exact Ev.now _
  | succ d ih =>
    intro i hi
    have B := basic (bt a) i
    have hnext := ih (i + 1) (by omega)
    have hst : st (bt a) (i + 1) = Th.step (st (bt a) i) i (bt a i) := rfl
    rw [hst] at hnext
    obtain ⟨lp, lq, ld, lr, lc, hc, hr⟩ := B
    generalize st (bt a) i = s at *
    refine Ev.succ ?_
    simp only [impl_match.l0, if_pos (show (i : Int) < (a.size : Int) by omega), if_pos (show (0 : Int) ≤ (i : Int) by omega), isReturn_eq, Option.bind_some]
    by_cases hR : isR (bt a i) = true
    · have hC := isR_notC hR
      simp only [hR, if_true]
      refine Ev.succ ?_
      simp only [impl_match.j1]
      by_cases he : s.c = []
      · simp only [he, List.length_nil, Int.ofNat_zero, Int.natCast_zero, BEq.rfl, if_true, Option.bind_some, List.length_cons]
        simp only [if_pos (show s.r.length + (0 + 1) < 17592186044416 by omega)]
        refine match_j2 a hn i (by omega) (-2) _ _ _ _ _ _ (by omega) (by simp; omega) (by simp) (by omega) (by omega) ?_
        rw [if_neg (by simp [hC])]
        simp only [Th.step, hR, if_true, he] at hnext
        exact hnext
      · have hl : 0 < s.c.length := List.length_pos_iff.2 he
        have ht := hc _ (top_mem he)
        have hz : ((s.c.length : Int) == 0) = false := by simp; omega
        simp only [hz, Bool.false_eq_true, if_false]
        rw [w64 (by omega) (by omega)]
        simp only [if_pos (show (0 : Int) ≤ (i : Int) by omega), if_pos (show (i : Int) < (a.size : Int) by omega), isReturn_eq, Option.bind_some, hR, if_true,
          if_pos (show 0 ≤ (s.c.length : Int) - 1 by omega), if_pos (show (s.c.length : Int) - 1 < (s.c.length : Int) by omega), rd_last he, if_pos ht.1, if_pos (show top s.c < (s.p.length : Int) by omega), if_pos (show (s.c.length : Int) - 1 ≤ (s.c.length : Int) by omega), take_last]
        refine match_j2 a hn i (by omega) _ _ _ _ _ _ _ (by simp; omega) (by omega) (by simp; omega) (by omega) (by omega) ?_
        rw [if_neg (by simp [hC])]
        simp only [Th.step, hR, if_true, if_neg he] at hnext
        exact hnext
    · have hR' : isR (bt a i) = false := by simpa using hR
      simp only [hR', Bool.false_eq_true, if_false]
      refine Ev.succ ?_
      simp only [impl_match.j1, Bool.false_eq_true, if_false, if_pos (show (0 : Int) ≤ (i : Int) by omega), if_pos (show (i : Int) < (a.size : Int) by omega), isReturn_eq, Option.bind_some, hR']
      refine match_j2 a hn i (by omega) (-1) _ _ _ _ _ _ (by omega) (by omega) (by omega) (by omega) (by omega) ?_
      by_cases hC : isC (bt a i) = true
      · rw [if_pos hC]
        simp only [Th.step, hR', Bool.false_eq_true, if_false, hC, if_true] at hnext
        exact hnext
      · rw [if_neg hC]
        simp only [Th.step, hR', Bool.false_eq_true, if_false, hC] at hnext
        exact hnext

theorem match_ev (a : ByteArray) (hn : a.size ≤ 1048576) : Ev (fun k => impl_match.f k a)
    ((st (bt a) a.size).p, (st (bt a) a.size).r, (st (bt a) a.size).c, (st (bt a) a.size).d, (st (bt a) a.size).q) := match_loop a hn a.size 0 (by omega)

end Go.Proofs.Ytgfilbgjnloopaa.Br
namespace Go.Proofs.Ytgfilbgjnloopaa.Br
open Go.RowKit Go.Proofs.Ytgfilbgjnloopaa.P Go.Proofs.YtgfilbgjnloopaaW.PrintWords Go.Proofs.YtgfilbgjnloopaaW.PrintLast Go.Proofs.YtgfilbgjnloopaaW.PrintMore Go.Proofs.Ytgfilbgjnloopaa.Th
set_option linter.unusedVariables false
set_option linter.unusedSimpArgs false
theorem partners_loop (a : ByteArray) (hn : a.size ≤ 1048576) : ∀ d i : Nat, i + d = a.size →
    Ev (fun k => spec_l01Partners.l0 k a (st (bt a) i).p (st (bt a) i).c i) (st (bt a) a.size).p := by
  intro d
  induction d with
  | zero =>
    intro i hi
    obtain rfl : i = a.size := by omega
    refine Ev.succ ?_
    simp only [spec_l01Partners.l0, if_neg (show ¬ (a.size : Int) < (a.size : Int) by omega)]
    exact Ev.now _
  | succ d ih =>
    intro i hi
    have B := basic (bt a) i
    have hnext := ih (i + 1) (by omega)
    have hst : st (bt a) (i + 1) = Th.step (st (bt a) i) i (bt a i) := rfl
    rw [hst] at hnext
    obtain ⟨lp, lq, ld, lr, lc, hc, hr⟩ := B
    generalize st (bt a) i = s at *
    refine Ev.succ ?_
    simp only [spec_l01Partners.l0, if_pos (show (i : Int) < (a.size : Int) by omega), if_pos (show (0 : Int) ≤ (i : Int) by omega), sCall_eq, sReturn_eq, Option.bind_some]
    by_cases hC : isC (bt a i) = true
    · have hR : isR (bt a i) = false := by
        cases h : isR (bt a i) with
        | false => rfl
        | true => rw [isR_notC h] at hC; cases hC
      simp only [hC, if_true]
      rw [w64 (by omega) (by omega)]
      simp only [if_pos (show s.p.length < 17592186044416 by omega), if_pos (show s.c.length < 17592186044416 by omega)]
      simp only [Th.step, hR, Bool.false_eq_true, if_false, hC, if_true] at hnext
      exact hnext
    · have hC' : isC (bt a i) = false := by simpa using hC
      simp only [hC', Bool.false_eq_true, if_false]
      by_cases hR : isR (bt a i) = true
      · simp only [hR, if_true]
        refine Ev.succ ?_
        simp only [spec_l01Partners.j1]
        by_cases he : s.c = []
        · simp only [he, List.length_nil, show decide (((0 : Nat) : Int) > 0) = false by decide, Bool.false_eq_true, if_false, if_pos (show (i : Int) < (a.size : Int) by omega), if_pos (show (0 : Int) ≤ (i : Int) by omega), sReturn_eq, Option.bind_some, hR, if_true, if_pos (show s.p.length < 17592186044416 by omega)]
          rw [w64 (by omega) (by omega)]
          simp only [Th.step, hR, if_true, he] at hnext
          exact hnext
        · have hl : 0 < s.c.length := List.length_pos_iff.2 he
          have ht := hc _ (top_mem he)
          rw [w64 (show -9223372036854775808 ≤ (s.c.length : Int) - 1 by omega) (by omega), w64 (by omega) (by omega)]
          simp only [show decide ((s.c.length : Int) > 0) = true by simp; omega, if_true, Option.bind_some,
            if_pos (show 0 ≤ (s.c.length : Int) - 1 by omega), if_pos (show (s.c.length : Int) - 1 < (s.c.length : Int) by omega), rd_last he, if_pos ht.1, if_pos (show top s.c < (s.p.length : Int) by omega), if_pos (show (s.c.length : Int) - 1 ≤ (s.c.length : Int) by omega), take_last, List.length_set, if_pos (show s.p.length < 17592186044416 by omega)]
          simp only [Th.step, hR, if_true, if_neg he] at hnext
          exact hnext
      · have hR' : isR (bt a i) = false := by simpa using hR
        simp only [hR', Bool.false_eq_true, if_false]
        refine Ev.succ ?_
        simp only [spec_l01Partners.j1, Bool.false_eq_true, if_false, if_pos (show (i : Int) < (a.size : Int) by omega), if_pos (show (0 : Int) ≤ (i : Int) by omega), sReturn_eq, Option.bind_some, hR', if_pos (show s.p.length < 17592186044416 by omega)]
        rw [w64 (by omega) (by omega)]
        simp only [Th.step, hR', Bool.false_eq_true, if_false, hC'] at hnext
        exact hnext

theorem partners_ev (a : ByteArray) (hn : a.size ≤ 1048576) : Ev (fun k => spec_l01Partners.f k a) (st (bt a) a.size).p := partners_loop a hn a.size 0 (by omega)

theorem g_rd (l : List Int) (i : Nat) : rd l i = g l i := by unfold rd g; simp

theorem pending_loop (a : ByteArray) (hn : a.size ≤ 1048576) (p : List Int) (hp : p.length = a.size) : ∀ d i : Nat, i + d = a.size →
    Ev (fun k => spec_l01Pending.l0 k a p ((sel (fun j => g p j == -2 && isR (bt a j)) i).length : Int) ((sel (fun j => g p j == -2 && isC (bt a j)) i).length : Int) i)
      (((sel (fun j => g p j == -2 && isR (bt a j)) a.size).length : Int), ((sel (fun j => g p j == -2 && isC (bt a j)) a.size).length : Int)) := by
  intro d
  induction d with
  | zero =>
    intro i hi
    obtain rfl : i = a.size := by omega
    refine Ev.succ ?_
    simp only [spec_l01Pending.l0, if_neg (show ¬ (a.size : Int) < (a.size : Int) by omega)]
    exact Ev.now _
  | succ d ih =>
    intro i hi
    have hnext := ih (i + 1) (by omega)
    have e1 : ((sel (fun j => g p j == -2 && isR (bt a j)) (i + 1)).length : Int) = (sel (fun j => g p j == -2 && isR (bt a j)) i).length + (if g p i = -2 ∧ isR (bt a i) = true then 1 else 0) := by
      rw [sel]; by_cases h1 : g p i = -2 <;> by_cases h2 : isR (bt a i) = true <;> simp [h1, h2]
    have e2 : ((sel (fun j => g p j == -2 && isC (bt a j)) (i + 1)).length : Int) = (sel (fun j => g p j == -2 && isC (bt a j)) i).length + (if g p i = -2 ∧ isC (bt a i) = true then 1 else 0) := by
      rw [sel]; by_cases h1 : g p i = -2 <;> by_cases h2 : isC (bt a i) = true <;> simp [h1, h2]
    have l1 := sel_len (f := fun j => g p j == -2 && isR (bt a j)) i
    have l2 := sel_len (f := fun j => g p j == -2 && isC (bt a j)) i
    rw [e1, e2] at hnext
    generalize ((sel (fun j => g p j == -2 && isR (bt a j)) a.size).length : Int) = R1 at *
    generalize ((sel (fun j => g p j == -2 && isC (bt a j)) a.size).length : Int) = R2 at *
    generalize (sel (fun j => g p j == -2 && isR (bt a j)) i).length = x at *
    generalize (sel (fun j => g p j == -2 && isC (bt a j)) i).length = y at *
    clear e1 e2
    have b1 : (i : Int) < (a.size : Int) := by omega
    have b2 : (0 : Int) ≤ (i : Int) := by omega
    have b3 : (i : Int) < (p.length : Int) := by omega
    have f1 : wrap64 ((x : Int) + 1) = (x : Int) + 1 := w64 (by omega) (by omega)
    have f2 : wrap64 ((y : Int) + 1) = (y : Int) + 1 := w64 (by omega) (by omega)
    have f3 : wrap64 ((i : Int) + 1) = (i : Int) + 1 := w64 (by omega) (by omega)
    refine Ev.succ ?_
    simp only [spec_l01Pending.l0, if_pos b1, if_pos b2, if_pos b3, g_rd, sReturn_eq, Option.bind_some]
    have fin : ∀ z : Bool, z = (g p i == -2 && isR (bt a i)) → Ev (fun k => spec_l01Pending.j1 k a p x y i z) (R1, R2) := by
      intro z hz
      refine Ev.succ ?_
      simp only [spec_l01Pending.j1, if_pos b1, if_pos b2, if_pos b3, g_rd, sCall_eq, Option.bind_some, f1, f2, f3]
      subst hz
      by_cases h1 : g p i = -2 <;> by_cases h2 : isR (bt a i) = true <;> by_cases h3 : isC (bt a i) = true <;>
        simp only [h1, h2, h3, and_self, if_true, if_false, and_true, true_and, and_false, false_and, Int.add_zero, Bool.false_eq_true, BEq.rfl, Bool.true_and, Bool.and_true, Bool.and_false, Bool.false_and] at hnext ⊢ <;> first | exact hnext | (simp only [beq_eq_false_iff_ne.2 h1, Bool.false_and, Bool.false_eq_true, if_false]; exact hnext)
    by_cases h1 : g p i = -2
    · simp only [h1, if_true]
      exact fin _ (by simp [h1])
    · simp only [h1, if_false]
      exact fin _ (by simp [h1])

theorem pending_ev (a : ByteArray) (hn : a.size ≤ 1048576) : Ev (fun k => spec_l01Pending.f k a) (((st (bt a) a.size).r.length : Int), ((st (bt a) a.size).c.length : Int)) := by
  unfold spec_l01Pending.f
  refine Ev.bind (partners_ev a hn) ?_
  have := pending_loop a hn (st (bt a) a.size).p (basic (bt a) a.size).lp a.size 0 (by omega)
  rw [pend_r, pend_c] at this
  exact this

end Go.Proofs.Ytgfilbgjnloopaa.Br
namespace Go.Proofs.Ytgfilbgjnloopaa.Br
open Go.RowKit Go.Proofs.Ytgfilbgjnloopaa.P Go.Proofs.YtgfilbgjnloopaaW.PrintWords Go.Proofs.YtgfilbgjnloopaaW.PrintLast Go.Proofs.YtgfilbgjnloopaaW.PrintMore Go.Proofs.Ytgfilbgjnloopaa.Th
set_option linter.unusedVariables false
set_option linter.unusedSimpArgs false
/-- Is a word matched. -/
def mtc (a : ByteArray) : Bool := ((((st (bt a) a.size).r.length : Int) + ((st (bt a) a.size).c.length : Int)) == 0)
theorem sMatched_ev (a : ByteArray) (hn : a.size ≤ 1048576) : Ev (fun k => spec_l01Matched.f k a) (mtc a) := by
  unfold spec_l01Matched.f
  refine Ev.bind (pending_ev a hn) ?_
  have B := basic (bt a) a.size
  have h1 := B.lr
  have h2 := B.lc
  simp only
  rw [w64 (by omega) (by omega)]
  exact Ev.now _
theorem iMatched_ev (a : ByteArray) (hn : a.size ≤ 1048576) : Ev (fun k => impl_isMatched.f k a) (mtc a) := by
  unfold impl_isMatched.f
  refine Ev.bind (match_ev a hn) ?_
  have B := basic (bt a) a.size
  have h1 := B.lr
  have h2 := B.lc
  simp only
  rw [w64 (by omega) (by omega)]
  exact Ev.now _
theorem in_eq (a lo hi : Int) : spec_l00In.f a lo hi = some (decide (lo ≤ a ∧ a ≤ hi)) := by
  unfold spec_l00In.f
  by_cases h : a ≥ lo
  · rw [if_pos h]; congr 1; simp; omega
  · rw [if_neg h]; congr 1; simp; omega
end Go.Proofs.Ytgfilbgjnloopaa.Br
namespace Go.Proofs.Ytgfilbgjnloopaa.Br
open Go.RowKit Go.Proofs.Ytgfilbgjnloopaa.P Go.Proofs.YtgfilbgjnloopaaW.PrintWords Go.Proofs.YtgfilbgjnloopaaW.PrintLast Go.Proofs.YtgfilbgjnloopaaW.PrintMore Go.Proofs.Ytgfilbgjnloopaa.Th
set_option linter.unusedVariables false
set_option linter.unusedSimpArgs false
set_option linter.unusedSectionVars false
theorem allN_iff {n : Nat} {e : Nat → Bool} : allN n e = true ↔ ∀ i, i < n → e i = true := by
  unfold allN
  rw [List.all_eq_true]
  exact ⟨fun h i hi => h i (List.mem_range.2 hi), fun h i hi => h i (List.mem_range.1 hi)⟩
/-- A loop that goes on while e holds, and is left with 'false' else; what comes behind it is looked at where e held of all. -/
theorem loopB (n : Nat) (L : Nat → Nat → Option Bool) (e : Nat → Bool) (ht : ∀ i, i < n → e i = true → ∀ R, Ev (L (i + 1)) R → Ev (L i) R) (hf : ∀ i, i < n → e i = false → Ev (L i) false) (R : Bool) (hR : (∀ i, i < n → e i = true) → Ev (L n) R) : Ev (L 0) (allN n e && R) := by
  by_cases h : ∀ i, i < n → e i = true
  · rw [allN_true h, Bool.true_and]
    exact down (P := fun i => Ev (L i) R) n (hR h) (fun i hi ih => ht i hi (h i hi) R ih) 0 (by omega)
  · have h2 : allN n e = false := Bool.eq_false_iff.2 (fun h3 => h (allN_iff.1 h3))
    rw [h2, Bool.false_and]
    refine down (P := fun i => (∃ j, i ≤ j ∧ j < n ∧ e j = false) → Ev (L i) false) n (fun ⟨j, h1, h2, _⟩ => by omega) (fun i hi ih hx => ?_) 0 (by omega) ?_
    · cases he : e i with
      | false => exact hf i hi he
      | true =>
        obtain ⟨j, h1, h2, h3⟩ := hx
        refine ht i hi he _ (ih ⟨j, ?_, h2, h3⟩)
        rcases Nat.eq_or_lt_of_le h1 with e1 | e1
        · subst e1; rw [he] at h3; cases h3
        · omega
    · obtain ⟨j, hj⟩ := Classical.not_forall.1 h
      obtain ⟨hj1, hj2⟩ := Classical.not_imp.1 hj
      exact ⟨j, by omega, hj1, by simpa using hj2⟩
theorem rd_getDI (l : List Int) (i : Nat) : rd l i = l.getD i 0 := by unfold rd; rw [Int.toNat_natCast]
theorem areEl_allN (n : Int) (l : List Int) (m : Int) : areEl n l m = (decide ((l.length : Int) = m) && allN l.length (fun i => Go.Proofs.Ytgfilbgjnloopaa.P.inR n (rd l (i : Int)))) := by
  unfold areEl
  apply Bool.eq_iff_iff.2
  rw [Bool.and_eq_true, Bool.and_eq_true, beq_iff_eq, decide_eq_true_eq, allN_iff, Bool.not_eq_true', List.any_eq_false]
  refine and_congr_right fun _ => ⟨fun h i hi => ?_, fun h x hx => ?_⟩
  · have := h (rd l (i : Int)) (by rw [rd_getDI]; exact getD_mem l i 0 hi)
    simpa using this
  · obtain ⟨i, hi, rfl⟩ := List.mem_iff_getElem.1 hx
    have := h i hi
    rw [rd_getDI, List.getD_eq_getElem?_getD, List.getElem?_eq_getElem hi] at this
    simpa using this
theorem listA_ev (l : List Int) (len n : Int) (hl : l.length ≤ 1048576) (h0 : -1000000 ≤ n) (h1 : n ≤ 1000000) : Ev (fun k => spec_l02List.f k l len n) (areEl n l len) := by
  have f1 : wrap64 (n - 1) = n - 1 := w64 (by omega) (by omega)
  have ein : ∀ x : Int, decide (0 ≤ x ∧ x ≤ n - 1) = Go.Proofs.Ytgfilbgjnloopaa.P.inR n x := fun x => by
    unfold Go.Proofs.Ytgfilbgjnloopaa.P.inR
    rw [Bool.decide_and]
  rw [areEl_allN]
  unfold spec_l02List.f
  by_cases h : (l.length : Int) = len
  · rw [decide_eq_true h, Bool.true_and]
    simp only [if_pos h]
    refine allLoop l.length (fun i k => spec_l02List.l0 k l n (i : Int)) _ ?_ ?_
    · refine Ev.succ ?_
      simp only [spec_l02List.l0, if_neg inlt]
      exact Ev.now _
    · intro i hi r hr
      refine Ev.succ ?_
      simp only [spec_l02List.l0, if_pos (ilt hi), if_pos (i0 i), in_eq, Option.bind_some, f1, ein, up1 i (by clear f1; omega)]
      exact iteEv hr
  · rw [decide_eq_false h, Bool.false_and]
    simp only [if_neg h]
    exact Ev.now _
section
variable {P Wr : List (List Int)} {In : List Int} {Ac : List Bool}
theorem okAlg_no (h : ¬ OkAlg P Wr In Ac) : Ev (fun _ : Nat => some false) (okAlg P Wr In Ac) := Ev.done (ok_no h).symm
def unitB (P : List (List Int)) (i : Nat) : Bool := (pp P 0 i == (i : Int)) && (pp P i 0 == (i : Int))
def ascB (P : List (List Int)) (i k j : Nat) : Bool := pp P (pp P i k) j == pp P i (pp P k j)
theorem asc_loops (hn : 1 ≤ Ac.length ∧ Ac.length ≤ 40) (hT : Tab Ac.length P) :
    Ev (fun k => spec_l04Ok.l2 k (Ac.length : Int) 0 P Wr In Ac) (allN Ac.length fun i => unitB P i && allN Ac.length fun k => allN Ac.length fun j => ascB P i k j) := by
  have hP := hT.num
  have hp : ∀ i : Nat, i < Ac.length → (i : Int) < (P.length : Int) := fun i hi => by omega
  have hl : ∀ i j : Nat, i < Ac.length → j < Ac.length → (j : Int) < ((rd_L1 P (i : Int)).length : Int) := fun i j hi hj => by rw [hT.len i hi]; omega
  -- the innermost loop
  have l4 : ∀ i k, i < Ac.length → k < Ac.length → ∀ R : Bool, Ev (fun q => spec_l04Ok.l3 q (Ac.length : Int) (i : Int) ((k + 1 : Nat) : Int) P Wr In Ac) R → Ev (fun q => spec_l04Ok.l4 q (Ac.length : Int) (i : Int) (k : Int) 0 P Wr In Ac) ((allN Ac.length fun j => ascB P i k j) && R) := by
    intro i k hi hk R hR
    have step : ∀ j, j < Ac.length → ∀ q, spec_l04Ok.l4 (q + 1) (Ac.length : Int) (i : Int) (k : Int) (j : Int) P Wr In Ac = if ascB P i k j = true then spec_l04Ok.l4 q (Ac.length : Int) (i : Int) (k : Int) ((j + 1 : Nat) : Int) P Wr In Ac else some false := by
      intro j hj q
      obtain ⟨a, ea, ha⟩ := hT.ent i k hi hk
      obtain ⟨b, eb, hb⟩ := hT.ent k j hk hj
      have c5 : (j : Int) < ((rd_L1 P (a : Int)).length : Int) := hl a j ha hj
      have c6 : (b : Int) < ((rd_L1 P (i : Int)).length : Int) := hl i b hi hb
      simp only [spec_l04Ok.l4, if_pos (ilt hj), if_pos (i0 i), if_pos (hp i hi), if_pos (i0 k), if_pos (hl i k hi hk), ea, if_pos (i0 a), if_pos (hp a ha), if_pos (i0 j), if_pos c5, if_pos (hp k hk), if_pos (hl k j hk hj), eb, if_pos (i0 b), if_pos c6, up1 j (by omega)]
      have e9 : ascB P i k j = decide (rd (rd_L1 P (a : Int)) (j : Int) = rd (rd_L1 P (i : Int)) (b : Int)) := by
        unfold ascB pp
        rw [ea, eb]; rfl
      rw [e9]
      by_cases h : rd (rd_L1 P (a : Int)) (j : Int) = rd (rd_L1 P (i : Int)) (b : Int)
      · simp [h]
      · simp [h]
    refine loopB Ac.length (fun j q => spec_l04Ok.l4 q (Ac.length : Int) (i : Int) (k : Int) (j : Int) P Wr In Ac) (fun j => ascB P i k j) ?_ ?_ R ?_
    · intro j hj he R' hR'
      refine Ev.succ ?_
      simp only [step j hj, he, if_true]
      exact hR'
    · intro j hj he
      refine Ev.succ ?_
      simp only [step j hj, he, Bool.false_eq_true, if_false]
      exact Ev.now _
    · intro _
      refine Ev.succ ?_
      simp only [spec_l04Ok.l4, if_neg inlt, up1 k (by omega)]
      exact hR
  have l3 : ∀ i, i < Ac.length → ∀ R : Bool, Ev (fun q => spec_l04Ok.l2 q (Ac.length : Int) ((i + 1 : Nat) : Int) P Wr In Ac) R → Ev (fun q => spec_l04Ok.l3 q (Ac.length : Int) (i : Int) 0 P Wr In Ac) ((allN Ac.length fun k => allN Ac.length fun j => ascB P i k j) && R) := by
    intro i hi R hR
    refine loopB Ac.length (fun k q => spec_l04Ok.l3 q (Ac.length : Int) (i : Int) (k : Int) P Wr In Ac) (fun k => allN Ac.length fun j => ascB P i k j) ?_ ?_ R ?_
    · intro k hk he R' hR'
      refine Ev.succ ?_
      simp only [spec_l04Ok.l3, if_pos (ilt hk)]
      have := l4 i k hi hk R' hR'
      rw [he, Bool.true_and] at this
      exact this
    · intro k hk he
      refine Ev.succ ?_
      simp only [spec_l04Ok.l3, if_pos (ilt hk)]
      -- what comes behind is not looked at
      obtain ⟨j, hj, hf⟩ : ∃ j, j < Ac.length ∧ ascB P i k j = false := by
        refine Classical.byContradiction fun h => ?_
        rw [allN_true (fun j hj => by cases e : ascB P i k j with | true => rfl | false => exact (h ⟨j, hj, e⟩).elim)] at he
        cases he
      have h9 := loopB Ac.length (fun j q => spec_l04Ok.l4 q (Ac.length : Int) (i : Int) (k : Int) (j : Int) P Wr In Ac) (fun j => ascB P i k j) ?_ ?_ false (fun h => by have := h j hj; rw [hf] at this; cases this)
      · rw [Bool.and_false] at h9; exact h9
      · intro j hj he R' hR'
        obtain ⟨a, ea, ha⟩ := hT.ent i k hi hk
        obtain ⟨b, eb, hb⟩ := hT.ent k j hk hj
        have c5 : (j : Int) < ((rd_L1 P (a : Int)).length : Int) := hl a j ha hj
        have c6 : (b : Int) < ((rd_L1 P (i : Int)).length : Int) := hl i b hi hb
        have e9 : rd (rd_L1 P (a : Int)) (j : Int) = rd (rd_L1 P (i : Int)) (b : Int) := by
          unfold ascB pp at he
          rw [ea, eb, beq_iff_eq] at he; exact he
        refine Ev.succ ?_
        simp only [spec_l04Ok.l4, if_pos (ilt hj), if_pos (i0 i), if_pos (hp i hi), if_pos (i0 k), if_pos (hl i k hi hk), ea, if_pos (i0 a), if_pos (hp a ha), if_pos (i0 j), if_pos c5, if_pos (hp k hk), if_pos (hl k j hk hj), eb, if_pos (i0 b), if_pos c6, up1 j (by omega), if_pos e9]
        exact hR'
      · intro j hj he
        obtain ⟨a, ea, ha⟩ := hT.ent i k hi hk
        obtain ⟨b, eb, hb⟩ := hT.ent k j hk hj
        have c5 : (j : Int) < ((rd_L1 P (a : Int)).length : Int) := hl a j ha hj
        have c6 : (b : Int) < ((rd_L1 P (i : Int)).length : Int) := hl i b hi hb
        have e9 : ¬ rd (rd_L1 P (a : Int)) (j : Int) = rd (rd_L1 P (i : Int)) (b : Int) := by
          unfold ascB pp at he
          rw [ea, eb, beq_eq_false_iff_ne] at he; exact he
        refine Ev.succ ?_
        simp only [spec_l04Ok.l4, if_pos (ilt hj), if_pos (i0 i), if_pos (hp i hi), if_pos (i0 k), if_pos (hl i k hi hk), ea, if_pos (i0 a), if_pos (hp a ha), if_pos (i0 j), if_pos c5, if_pos (hp k hk), if_pos (hl k j hk hj), eb, if_pos (i0 b), if_pos c6, if_neg e9]
        exact Ev.now _
    · intro _
      refine Ev.succ ?_
      simp only [spec_l04Ok.l3, if_neg inlt, up1 i (by omega)]
      exact hR
  -- a loop of elements whose end is not reached
  have l2 : ∀ i, i ≤ Ac.length → Ev (fun q => spec_l04Ok.l2 q (Ac.length : Int) (i : Int) P Wr In Ac) (allFromN Ac.length (fun i => unitB P i && allN Ac.length fun k => allN Ac.length fun j => ascB P i k j) i) := by
    refine down Ac.length ?_ ?_
    · rw [allFromN_end]
      refine Ev.succ ?_
      simp only [spec_l04Ok.l2, if_neg inlt]
      exact Ev.now _
    · intro i hi ih
      rw [allFromN_step _ _ _ hi]
      have z : (0 : Int) < (P.length : Int) := by omega
      have c1 : (i : Int) < ((rd_L1 P (0 : Int)).length : Int) := hl 0 i (by omega) hi
      have c2 : (0 : Int) < ((rd_L1 P (i : Int)).length : Int) := hl i 0 hi (by omega)
      refine Ev.succ ?_
      simp only [spec_l04Ok.l2, if_pos (ilt hi), if_pos z, if_pos (i0 i), if_pos c1, if_pos (hp i hi), if_pos c2]
      by_cases h1 : rd (rd_L1 P 0) (i : Int) = (i : Int)
      · simp only [if_pos h1]
        refine Ev.succ ?_
        by_cases h2 : rd (rd_L1 P (i : Int)) 0 = (i : Int)
        · have hu : unitB P i = true := by unfold unitB pp; rw [h1, h2]; simp
          simp only [spec_l04Ok.j4, h2, bne_self_eq_false, Bool.false_eq_true, if_false, hu, Bool.true_and]
          exact l3 i hi _ ih
        · have hu : unitB P i = false := by unfold unitB pp; rw [beq_eq_false_iff_ne.2 h2, Bool.and_false]
          simp only [spec_l04Ok.j4, bne_iff_ne.2 h2, if_true, hu, Bool.false_and]
          exact Ev.now _
      · have hu : unitB P i = false := by unfold unitB pp; rw [beq_eq_false_iff_ne.2 h1, Bool.false_and]
        simp only [if_neg h1, hu, Bool.false_and]
        refine Ev.succ ?_
        simp only [spec_l04Ok.j4, if_true]
        exact Ev.now _
  have := l2 0 (by omega)
  rw [allFromN_zero] at this
  exact this
theorem rowsA_iff (l : List (List Int)) (n : Int) : (∀ i, i < l.length → areEl n (rd_L1 l (i : Int)) n = true) ↔ ∀ r ∈ l, areEl n r n = true := by
  constructor
  · intro h r hr
    obtain ⟨i, hi, rfl⟩ := List.mem_iff_getElem.1 hr
    have := h i hi
    unfold rd_L1 at this
    rw [Int.toNat_natCast, List.getD_eq_getElem?_getD, List.getElem?_eq_getElem hi] at this
    exact this
  · intro h i hi
    refine h _ ?_
    unfold rd_L1
    rw [Int.toNat_natCast]
    exact getD_mem l i [] hi
theorem specAlg_ev (hP : P.length ≤ 1048576 ∧ ∀ r ∈ P, r.length ≤ 1048576) (hW : Wr.length ≤ 1048576 ∧ ∀ r ∈ Wr, r.length ≤ 1048576) (hI : In.length ≤ 1048576) (hA : Ac.length ≤ 1048576) : Ev (fun k => spec_l04Ok.f k P Wr In Ac) (okAlg P Wr In Ac) := by
  unfold spec_l04Ok.f
  simp only [in_eq, Option.bind_some]
  have no : ∀ (h : ¬ OkAlg P Wr In Ac), Ev (fun k => spec_l04Ok.j0 k (Ac.length : Int) true P Wr In Ac) (okAlg P Wr In Ac) := fun h => by
    refine Ev.succ ?_
    simp only [spec_l04Ok.j0, if_true]
    exact okAlg_no h
  by_cases h1 : 1 ≤ (Ac.length : Int) ∧ (Ac.length : Int) ≤ 40
  · have h1n : 1 ≤ Ac.length ∧ Ac.length ≤ 40 := by omega
    simp only [decide_eq_true h1, if_true]
    by_cases h2 : (P.length : Int) = (Ac.length : Int)
    · have h2n : P.length = Ac.length := by omega
      simp only [if_pos h2]
      by_cases h3 : (Wr.length : Int) = 4
      · have h3n : Wr.length = 4 := by omega
        simp only [if_pos h3]
        refine Ev.bind (listA_ev In 2 (Ac.length : Int) hI (by omega) (by omega)) ?_
        cases h4 : areEl (Ac.length : Int) In 2 with
        | false => simp only [Bool.not_false]; exact no (fun h => by have := h.2.2.2.1; rw [h4] at this; cases this)
        | true =>
          simp only [Bool.not_true]
          refine Ev.succ ?_
          simp only [spec_l04Ok.j0, Bool.false_eq_true, if_false]
          have hE : okAlg P Wr In Ac = (allN P.length (fun i => areEl (Ac.length : Int) (rd_L1 P (i : Int)) (Ac.length : Int)) && (allN Wr.length (fun i => areEl (Ac.length : Int) (rd_L1 Wr (i : Int)) (Ac.length : Int)) && allN Ac.length fun i => unitB P i && allN Ac.length fun k => allN Ac.length fun j => ascB P i k j)) := by
            apply Bool.eq_iff_iff.2
            rw [Bool.and_eq_true, Bool.and_eq_true, allN_iff, allN_iff, allN_iff, rowsA_iff, rowsA_iff]
            unfold okAlg
            rw [decide_eq_true_eq]
            constructor
            · rintro ⟨-, -, -, -, ha, hb, hc⟩
              refine ⟨fun r hr => ha r (List.mem_append_left _ hr), fun r hr => ha r (List.mem_append_right _ hr), fun i hi => ?_⟩
              rw [Bool.and_eq_true]
              refine ⟨?_, allN_true fun k hk => allN_true fun j hj => ?_⟩
              · unfold unitB; rw [(hb i hi).1, (hb i hi).2]; simp
              · unfold ascB; rw [hc i hi k hk j hj]; exact beq_self_eq_true _
            · rintro ⟨ha, hb, hc⟩
              refine ⟨h1n, h2n, h3n, h4, fun r hr => (List.mem_append.1 hr).elim (ha r) (hb r), fun i hi => ?_, fun i hi k hk j hj => ?_⟩
              · have := hc i hi
                rw [Bool.and_eq_true] at this
                have h9 := this.1
                unfold unitB at h9
                rw [Bool.and_eq_true, beq_iff_eq, beq_iff_eq] at h9
                exact h9
              · have := hc i hi
                rw [Bool.and_eq_true, allN_iff] at this
                have h9 := allN_iff.1 (this.2 k hk) j hj
                unfold ascB at h9
                exact beq_iff_eq.1 h9
          rw [hE]
          have hrow : ∀ l : List (List Int), (∀ r ∈ l, r.length ≤ 1048576) → ∀ i, i < l.length → (rd_L1 l (i : Int)).length ≤ 1048576 := fun l h i hi => h _ (by unfold rd_L1; rw [Int.toNat_natCast]; exact getD_mem l i [] hi)
          refine loopB P.length (fun i k => spec_l04Ok.l0 k (Ac.length : Int) (i : Int) P Wr In Ac) (fun i => areEl (Ac.length : Int) (rd_L1 P (i : Int)) (Ac.length : Int)) ?_ ?_ _ ?_
          · intro i hi he R hR
            refine Ev.succ ?_
            simp only [spec_l04Ok.l0, if_pos (show (i : Int) < (Ac.length : Int) by omega), if_pos (i0 i), if_pos (ilt hi), up1 i (by omega)]
            refine Ev.bind (listA_ev _ _ (Ac.length : Int) (hrow P hP.2 i hi) (by omega) (by omega)) ?_
            simp only [he, if_true]
            exact hR
          · intro i hi he
            refine Ev.succ ?_
            simp only [spec_l04Ok.l0, if_pos (show (i : Int) < (Ac.length : Int) by omega), if_pos (i0 i), if_pos (ilt hi)]
            refine Ev.bind (listA_ev _ _ (Ac.length : Int) (hrow P hP.2 i hi) (by omega) (by omega)) ?_
            simp only [he, Bool.false_eq_true, if_false]
            exact Ev.now _
          · intro hall
            refine Ev.succ ?_
            simp only [spec_l04Ok.l0, if_neg (show ¬ (P.length : Int) < (Ac.length : Int) by omega)]
            have hT : Tab Ac.length P := tab_of h2n ((rowsA_iff P _).1 hall)
            refine loopB Wr.length (fun i k => spec_l04Ok.l1 k (Ac.length : Int) (i : Int) P Wr In Ac) (fun i => areEl (Ac.length : Int) (rd_L1 Wr (i : Int)) (Ac.length : Int)) ?_ ?_ _ ?_
            · intro i hi he R hR
              refine Ev.succ ?_
              simp only [spec_l04Ok.l1, if_pos (show (i : Int) < 4 by omega), if_pos (i0 i), if_pos (ilt hi), up1 i (by omega)]
              refine Ev.bind (listA_ev _ _ (Ac.length : Int) (hrow Wr hW.2 i hi) (by omega) (by omega)) ?_
              simp only [he, if_true]
              exact hR
            · intro i hi he
              refine Ev.succ ?_
              simp only [spec_l04Ok.l1, if_pos (show (i : Int) < 4 by omega), if_pos (i0 i), if_pos (ilt hi)]
              refine Ev.bind (listA_ev _ _ (Ac.length : Int) (hrow Wr hW.2 i hi) (by omega) (by omega)) ?_
              simp only [he, Bool.false_eq_true, if_false]
              exact Ev.now _
            · intro _
              refine Ev.succ ?_
              simp only [spec_l04Ok.l1, if_neg (show ¬ (Wr.length : Int) < 4 by omega)]
              exact asc_loops h1n hT
      · simp only [if_neg h3]
        exact no (fun h => h3 (by have := h.2.2.1; omega))
    · simp only [if_neg h2]
      exact no (fun h => h2 (by have := h.2.1; omega))
  · simp only [decide_eq_false h1, Bool.false_eq_true, if_false]
    exact no (fun h => h1 (by have := h.1; omega))
end
end Go.Proofs.Ytgfilbgjnloopaa.Br
namespace Go.Proofs.Ytgfilbgjnloopaa.Br
open Go.RowKit Go.Proofs.Ytgfilbgjnloopaa.P Go.Proofs.YtgfilbgjnloopaaW.PrintWords Go.Proofs.YtgfilbgjnloopaaW.PrintLast Go.Proofs.YtgfilbgjnloopaaW.PrintMore Go.Proofs.Ytgfilbgjnloopaa.Th
set_option linter.unusedVariables false
set_option linter.unusedSimpArgs false
/-- The greatest of some numbers and a first one. -/
def most (x : Int) (l : List Int) : Int := l.foldl mx x

end Go.Proofs.Ytgfilbgjnloopaa.Br
namespace Go.Proofs.Ytgfilbgjnloopaa.Br
open Go.RowKit Go.Proofs.Ytgfilbgjnloopaa.P Go.Proofs.YtgfilbgjnloopaaW.PrintWords Go.Proofs.YtgfilbgjnloopaaW.PrintLast Go.Proofs.YtgfilbgjnloopaaW.PrintMore Go.Proofs.Ytgfilbgjnloopaa.Th
set_option linter.unusedVariables false
set_option linter.unusedSimpArgs false
theorem mtc_nil {a : ByteArray} (h : mtc a = true) : (st (bt a) a.size).r = [] ∧ (st (bt a) a.size).c = [] := by
  unfold mtc at h
  simp only [beq_iff_eq] at h
  constructor
  · apply List.eq_nil_of_length_eq_zero; omega
  · apply List.eq_nil_of_length_eq_zero; omega
/-- In a matched word nothing is pending: calls go ahead, all else does not. -/
theorem mtc_p {a : ByteArray} (h : mtc a = true) {i : Nat} (hi : i < a.size) : (isC (bt a i) = true → (i : Int) < g (st (bt a) a.size).p i ∧ g (st (bt a) a.size).p i < a.size) ∧ (isC (bt a i) = false → g (st (bt a) a.size).p i < i) := by
  have I := inv (bt a) a.size
  obtain ⟨h1, h2⟩ := mtc_nil h
  have n2 : g (st (bt a) a.size).p i ≠ -2 := by
    intro e
    have := (I.m2 i hi).1 e
    rw [h1, h2] at this
    simp at this
  have lo := I.lo i hi
  constructor
  · intro hC
    have n1 : g (st (bt a) a.size).p i ≠ -1 := by
      intro e
      have := (I.m1 i hi).1 e
      rw [hC] at this
      simp at this
    have := I.pos i hi (by omega)
    refine ⟨?_, this.1⟩
    rcases this.2.2 with h4 | h4
    · exact h4.2
    · rw [isR_notC h4.1] at hC; cases hC
  · intro hC
    by_cases h0 : 0 ≤ g (st (bt a) a.size).p i
    · have := I.pos i hi h0
      rcases this.2.2 with h4 | h4
      · rw [h4.1] at hC; cases hC
      · exact h4.2
    · omega

theorem factors_loop (a : ByteArray) (hn : a.size ≤ 1048576) (hm : mtc a = true) (p r c d q : List Int) (hp : p = (st (bt a) a.size).p) : ∀ n i : Nat, i ≤ a.size → a.size ≤ i + n → ∀ acc : List ByteArray, acc.length ≤ i →
    ∃ L : List ByteArray, Ev (fun k => spec_l01Factors.l0 k a p acc i) L ∧ Ev (fun k => impl_factors.l0 k a acc i p r c d q) L ∧ L.length ≤ a.size := by
  have lp : p.length = a.size := by rw [hp]; exact (basic (bt a) a.size).lp
  intro n
  induction n with
  | zero =>
    intro i hi hi2 acc ha
    obtain rfl : i = a.size := by omega
    refine ⟨acc, Ev.succ ?_, Ev.succ ?_, ha⟩
    · simp only [spec_l01Factors.l0, if_neg (show ¬ (a.size : Int) < (a.size : Int) by omega)]
      exact Ev.now _
    · simp only [impl_factors.l0, if_neg (show ¬ (a.size : Int) < (a.size : Int) by omega)]
      exact Ev.now _
  | succ n ih =>
    intro i hi hi2 acc ha
    by_cases hlt : i < a.size
    · have hh := mtc_p hm hlt
      rw [← hp] at hh
      -- where the factor ends
      have key : ∃ e : Nat, i < e ∧ e ≤ a.size ∧ (if isC (bt a i) = true then g p i + 1 else (i : Int) + 1) = e ∧ mx i (g p i) + 1 = e := by
        by_cases hC : isC (bt a i) = true
        · have := hh.1 hC
          refine ⟨(g p i + 1).toNat, by omega, by omega, by rw [if_pos hC]; omega, ?_⟩
          unfold mx
          rw [if_pos this.1]; omega
        · have := hh.2 (by simpa using hC)
          refine ⟨i + 1, by omega, by omega, by rw [if_neg hC]; push_cast; rfl, ?_⟩
          unfold mx
          rw [if_neg (by omega)]; push_cast; rfl
      obtain ⟨e, e1, e2, e3, e4⟩ := key
      obtain ⟨L, s1, s2, s3⟩ := ih e e2 (by omega) (acc ++ [a.extract i e]) (by simp; omega)
      have b1 : (i : Int) < (a.size : Int) := by omega
      have b2 : (0 : Int) ≤ (i : Int) := by omega
      have b3 : (i : Int) < (p.length : Int) := by omega
      have b4 : (i : Int) ≤ (e : Int) := by omega
      have b5 : (e : Int) ≤ (a.size : Int) := by omega
      have b6 : acc.length < 8796093022208 := by omega
      refine ⟨L, Ev.succ ?_, Ev.succ ?_, s3⟩
      · simp only [spec_l01Factors.l0, if_pos b1, if_pos b2, sCall_eq, Option.bind_some, g_rd]
        by_cases hC : isC (bt a i) = true
        · rw [if_pos hC] at e3
          have f1 : wrap64 (g p i + 1) = e := by rw [w64 (by omega) (by omega)]; exact e3
          simp only [hC, if_true, if_pos b3, f1, if_pos b4, if_pos b5, if_pos b6, Int.toNat_natCast]
          exact s1
        · rw [if_neg hC] at e3
          have f1 : wrap64 ((i : Int) + 1) = e := by rw [w64 (by omega) (by omega)]; exact e3
          simp only [hC, if_false, f1, if_pos b4, if_pos b5, if_pos b6, Int.toNat_natCast]
          exact s1
      · have f1 : wrap64 (mx i (g p i) + 1) = e := by rw [w64 (by omega) (by omega)]; exact e4
        simp only [impl_factors.l0, if_pos b1, if_pos b2, if_pos b3, g_rd, f1, if_pos b4, if_pos b5, if_pos b6, Int.toNat_natCast]
        exact s2
    · exact ih i hi (by omega) acc ha

end Go.Proofs.Ytgfilbgjnloopaa.Br
namespace Go.Proofs.Ytgfilbgjnloopaa.Th

theorem step_c (s : St) (i b : Int) : (step s i b).c = if isR b = true then s.c.dropLast else if isC b = true then s.c ++ [i] else s.c := by
  unfold step
  split
  · split
    · rename_i h; rw [h]; rfl
    · rfl
  · split <;> rfl
theorem step_r (s : St) (i b : Int) : (step s i b).r = if isR b = true ∧ s.c = [] then s.r ++ [i] else s.r := by
  unfold step
  by_cases h : isR b = true
  · by_cases h2 : s.c = [] <;> simp [h, h2]
  · by_cases h3 : isC b = true <;> simp [h, h3]
theorem st_succ (b : Int → Int) (n : Nat) : st b (n + 1) = step (st b n) n (b n) := rfl
theorem st_congr {b b' : Int → Int} : ∀ n, (∀ j : Nat, j < n → b j = b' j) → st b n = st b' n
  | 0, _ => rfl
  | n + 1, h => by rw [st_succ, st_succ, st_congr n (fun j hj => h j (by omega)), h n (by omega)]
theorem r_mono (b : Int → Int) (n : Nat) : ∀ m, ∃ l, (st b (n + m)).r = (st b n).r ++ l
  | 0 => ⟨[], by simp⟩
  | m + 1 => by
    obtain ⟨l, hl⟩ := r_mono b n m
    rw [← Nat.add_assoc, st_succ, step_r, hl]
    split
    · exact ⟨l ++ [((n + m : Nat) : Int)], by simp⟩
    · exact ⟨l, rfl⟩
theorem r_nil {b : Int → Int} {n m : Nat} (h : (st b m).r = []) (hn : n ≤ m) : (st b n).r = [] := by
  obtain ⟨d, rfl⟩ := Nat.exists_eq_add_of_le hn
  obtain ⟨l, hl⟩ := r_mono b n d
  rw [h] at hl
  have := List.append_eq_nil_iff.1 hl.symm
  exact this.1
/-- In a matched word: where nothing is open ahead of a call, nothing is open behind what it matches. -/
theorem call_end {b : Int → Int} {n i e : Nat} (hr : (st b n).r = []) (hc : (st b n).c = []) (hi : i < n) (h : (st b i).c = []) (hC : isC (b i) = true) (he : g (st b n).p i + 1 = e) (hen : e ≤ n) : (st b e).c = [] ∧ (i : Int) ∈ (st b (e - 1)).c := by
  have I := inv b n
  have B := basic b e
  have nopend : ∀ k : Nat, k < n → isC (b k) = true → (k : Int) < g (st b n).p k ∧ g (st b n).p (g (st b n).p k).toNat = k := by
    intro k hk hk2
    have n2 : g (st b n).p k ≠ -2 := by
      intro e2
      have := (I.m2 k hk).1 e2
      rw [hr, hc] at this
      simp at this
    have n1 : g (st b n).p k ≠ -1 := by
      intro e2
      have := (I.m1 k hk).1 e2
      rw [hk2] at this
      simp at this
    have := I.pos k hk (by have := I.lo k hk; omega)
    refine ⟨?_, this.2.1⟩
    rcases this.2.2 with h4 | h4
    · exact h4.2
    · rw [isR_notC h4.1] at hk2; cases hk2
  have hpi := nopend i hi hC
  have hin : (i : Int) ∈ (st b (e - 1)).c := (onstack b (e - 1) n (by omega) i (by omega)).2 ⟨hC, Or.inr (by omega)⟩
  refine ⟨?_, hin⟩
  -- what is on the stack ahead of the place that matches: i is its last
  have hE : e - 1 < n := by omega
  have hpe : g (st b n).p (e - 1 : Nat) = i := by
    have := hpi.2
    rwa [show (g (st b n).p i).toNat = e - 1 by omega] at this
  have hR : isR (b (e - 1 : Nat)) = true := by
    have := I.pos (e - 1) hE (by omega)
    rcases this.2.2 with h4 | h4
    · exact absurd h4.2 (by omega)
    · exact h4.1
  have hne : (st b (e - 1)).c ≠ [] := fun h0 => by rw [h0] at hin; cases hin
  apply List.eq_nil_iff_forall_not_mem.2
  intro x hx
  obtain ⟨x0, x1⟩ := B.hc x hx
  obtain ⟨k, rfl⟩ := Int.eq_ofNat_of_zero_le x0
  have hk : k < e := by omega
  obtain ⟨q1, q2⟩ := (onstack b e n hen k hk).1 hx
  have hpk := nopend k (by omega) q1
  have q2' : (e : Int) ≤ g (st b n).p k := by rcases q2 with q | q <;> omega
  by_cases hki : k < i
  · -- k would have been open at i
    have : (k : Int) ∈ (st b i).c := (onstack b i n (by omega) k hki).2 ⟨q1, Or.inr (by omega)⟩
    rw [h] at this; cases this
  · by_cases hke : k = i
    · subst hke; omega
    · -- k lies behind i on the stack, and stays there: but the place that matches i takes the last one
      have hkc : (k : Int) ∈ (st b (e - 1)).c := by
        by_cases h5 : k = e - 1
        · rw [h5] at q1
          have := isR_notC hR
          rw [q1] at this; cases this
        · exact (onstack b (e - 1) n (by omega) k (by omega)).2 ⟨q1, Or.inr (by omega)⟩
      have inc := (inv b (e - 1)).inc
      have hs : st b e = step (st b (e - 1)) ((e - 1 : Nat) : Int) (b (e - 1 : Nat)) := by
        obtain ⟨d, rfl⟩ : ∃ d, e = d + 1 := ⟨e - 1, by omega⟩
        rfl
      have hce : (st b e).c = (st b (e - 1)).c.dropLast := by rw [hs, step_c, if_pos hR]
      have ht := dropLast_top hne
      -- i is not on the stack behind it
      have hni : (i : Int) ∉ (st b e).c := fun h6 => by
        have := (onstack b e n hen i (by omega)).1 h6
        rcases this.2 with h7 | h7 <;> omega
      rw [← ht] at hin
      have hti : (i : Int) = top (st b (e - 1)).c := by
        rcases List.mem_append.1 hin with h6 | h6
        · rw [← hce] at h6; exact absurd h6 hni
        · simpa using h6
      have incc : (st b (e - 1)).c.Pairwise (· < ·) := (List.pairwise_append.1 inc).2.1
      rw [← ht] at incc
      have hx' := hx
      rw [hce] at hx'
      have := pw_mem incc _ hx'
      omega
end Go.Proofs.Ytgfilbgjnloopaa.Th
namespace Go.Proofs.Ytgfilbgjnloopaa.Br
open Go.RowKit Go.Proofs.Ytgfilbgjnloopaa.P Go.Proofs.YtgfilbgjnloopaaW.PrintWords Go.Proofs.YtgfilbgjnloopaaW.PrintLast Go.Proofs.YtgfilbgjnloopaaW.PrintMore Go.Proofs.Ytgfilbgjnloopaa.Th
set_option linter.unusedVariables false
set_option linter.unusedSimpArgs false
/-- The factors of a matched word, from a place where nothing is open. -/
inductive Fac (a : ByteArray) : Nat → List ByteArray → Prop
  | nil : Fac a a.size []
  | cons {i e : Nat} {L : List ByteArray} : i < e → e ≤ a.size → (st (bt a) i).c = [] → (st (bt a) e).c = [] → (if isC (bt a i) = true then g (st (bt a) a.size).p i + 1 = e else e = i + 1) → Fac a e L → Fac a i (a.extract i e :: L)
theorem fac_loop (a : ByteArray) (hn : a.size ≤ 1048576) (hm : mtc a = true) (p r c d q : List Int) (hp : p = (st (bt a) a.size).p) : ∀ n i : Nat, i ≤ a.size → a.size ≤ i + n → (st (bt a) i).c = [] → ∀ acc : List ByteArray, acc.length ≤ i →
    ∃ L : List ByteArray, Fac a i L ∧ Ev (fun k => impl_factors.l0 k a acc i p r c d q) (acc ++ L) := by
  have lp : p.length = a.size := by rw [hp]; exact (basic (bt a) a.size).lp
  obtain ⟨hr, hc⟩ := mtc_nil hm
  intro n
  induction n with
  | zero =>
    intro i hi hi2 _ acc ha
    obtain rfl : i = a.size := by omega
    refine ⟨[], Fac.nil, Ev.succ ?_⟩
    simp only [impl_factors.l0, if_neg (show ¬ (a.size : Int) < (a.size : Int) by omega), List.append_nil]
    exact Ev.now _
  | succ n ih =>
    intro i hi hi2 h0 acc ha
    by_cases hlt : i < a.size
    · have hh := mtc_p hm hlt
      have key : ∃ e : Nat, i < e ∧ e ≤ a.size ∧ (if isC (bt a i) = true then g (st (bt a) a.size).p i + 1 = e else e = i + 1) ∧ mx i (g p i) + 1 = e ∧ (st (bt a) e).c = [] := by
        by_cases hC : isC (bt a i) = true
        · have := hh.1 hC
          have he : g (st (bt a) a.size).p i + 1 = ((g (st (bt a) a.size).p i + 1).toNat : Int) := by omega
          refine ⟨(g (st (bt a) a.size).p i + 1).toNat, by omega, by omega, by rw [if_pos hC]; exact he, ?_, (call_end hr hc hlt h0 hC he (by omega)).1⟩
          rw [hp]
          unfold mx
          rw [if_pos this.1]; omega
        · have := hh.2 (by simpa using hC)
          have hR : ¬ isR (bt a i) = true := by
            intro hR
            have e1 := r_nil hr (show i + 1 ≤ a.size by omega)
            rw [st_succ, step_r, if_pos ⟨hR, h0⟩] at e1
            simp at e1
          refine ⟨i + 1, by omega, by omega, by rw [if_neg hC], ?_, ?_⟩
          · rw [hp]
            unfold mx
            rw [if_neg (by omega)]; push_cast; rfl
          · rw [st_succ, step_c, if_neg hR, if_neg hC]; exact h0
      obtain ⟨e, e1, e2, e3, e4, e5⟩ := key
      obtain ⟨L, s1, s2⟩ := ih e e2 (by omega) e5 (acc ++ [a.extract i e]) (by simp; omega)
      have b1 : (i : Int) < (a.size : Int) := by omega
      have b2 : (0 : Int) ≤ (i : Int) := by omega
      have b3 : (i : Int) < (p.length : Int) := by omega
      have b4 : (i : Int) ≤ (e : Int) := by omega
      have b5 : (e : Int) ≤ (a.size : Int) := by omega
      have b6 : acc.length < 8796093022208 := by omega
      refine ⟨a.extract i e :: L, Fac.cons e1 e2 h0 e5 e3 s1, Ev.succ ?_⟩
      have f1 : wrap64 (mx i (g p i) + 1) = e := by rw [w64 (by omega) (by omega)]; exact e4
      simp only [impl_factors.l0, if_pos b1, if_pos b2, if_pos b3, g_rd, f1, if_pos b4, if_pos b5, if_pos b6, Int.toNat_natCast]
      rw [List.append_assoc] at s2
      exact s2
    · exact ih i hi (by omega) h0 acc ha
theorem ext_size (a : ByteArray) {i e : Nat} (h : e ≤ a.size) : (a.extract i e).size = e - i := by rw [ByteArray.size_extract]; omega
theorem okw_extr {a : ByteArray} (h : okw a = true) {i e : Nat} (he : e ≤ a.size) : okw (a.extract i e) = true := by
  rw [okw_iff, ext_size a he]
  refine ⟨fun j hj => ?_, by have := okw_size h; omega⟩
  rw [bt_extract a he hj]
  exact okw_sym h (by omega)
end Go.Proofs.Ytgfilbgjnloopaa.Br
namespace Go.Proofs.Ytgfilbgjnloopaa.Th

theorem dropLast_app {α : Type} (l m : List α) (h : m ≠ []) : (l ++ m).dropLast = l ++ m.dropLast := by
  rw [List.dropLast_append_of_ne_nil h]
theorem p_old (s : St) (i b : Int) (j : Nat) (hj : j < s.p.length) : g (step s i b).p j = if isR b = true ∧ s.c ≠ [] ∧ (top s.c).toNat = j then i else g s.p j := by
  unfold step
  by_cases hR : isR b = true
  · rw [if_pos hR]
    by_cases hc : s.c = []
    · rw [if_pos hc, if_neg (fun h => h.2.1 hc)]
      exact g_append_left hj
    · rw [if_neg hc]
      show g (s.p.set (top s.c).toNat i ++ [top s.c]) j = _
      rw [g_append_left (by simp; exact hj), g_set]
      by_cases ht : (top s.c).toNat = j
      · rw [if_pos ⟨ht, by omega⟩, if_pos ⟨hR, hc, ht⟩]
      · rw [if_neg (fun h => ht h.1), if_neg (fun h => ht h.2.2)]
  · have e : (if isR b = true ∧ s.c ≠ [] ∧ (top s.c).toNat = j then i else g s.p j) = g s.p j := if_neg (fun h => hR h.1)
    rw [e, if_neg hR]
    split
    · exact g_append_left hj
    · exact g_append_left hj
theorem p_new (s : St) (i b : Int) : g (step s i b).p s.p.length = if isR b = true then (if s.c = [] then -2 else top s.c) else if isC b = true then -2 else -1 := by
  unfold step
  by_cases hR : isR b = true
  · rw [if_pos hR, if_pos hR]
    by_cases hc : s.c = []
    · rw [if_pos hc, if_pos hc]; exact g_append_end rfl
    · rw [if_neg hc, if_neg hc]
      exact g_append_end (by simp)
  · rw [if_neg hR, if_neg hR]
    split
    · exact g_append_end rfl
    · exact g_append_end rfl
/-- Where a place, or a partner, comes to lie when n symbols are put in at i. -/
def put (i n : Nat) (v : Int) : Int := if v ≥ i then v + n else v
theorem top_map (l : List Int) (f : Int → Int) (h : l ≠ []) : top (l.map f) = f (top l) := by
  unfold top
  rw [List.getLast?_map, List.getLast?_eq_some_getLast h]
  rfl
/-- Behind what is put in, the reading goes on as9 before, but for the places. -/
theorem behind (b b' : Int → Int) (i n : Nat) (hpre : ∀ j : Nat, j < i → b' j = b j) (hpost : ∀ j : Nat, i ≤ j → b' ((j + n : Nat) : Int) = b j)
    (hc : (st b' (i + n)).c = (st b' i).c) (hr : (st b' (i + n)).r = (st b' i).r) (hp : ∀ j : Nat, j < i → g (st b' (i + n)).p j = g (st b' i).p j) :
    ∀ k, (st b' (i + k + n)).c = (st b (i + k)).c.map (put i n) ∧ (st b' (i + k + n)).r = (st b (i + k)).r.map (put i n) ∧
      (∀ j : Nat, j < i → g (st b' (i + k + n)).p j = put i n (g (st b (i + k)).p j)) ∧ (∀ j : Nat, i ≤ j → j < i + k → g (st b' (i + k + n)).p (j + n) = put i n (g (st b (i + k)).p j)) := by
  have e0 : st b' i = st b i := st_congr i hpre
  have low : ∀ v : Int, v < i → put i n v = v := fun v h => by unfold put; rw [if_neg (by omega)]
  have B0 := basic b i
  have hpid : ∀ l : List Int, (∀ x ∈ l, x < i) → l.map (put i n) = l := by
    intro l hl
    have : l.map (put i n) = l.map id := List.map_congr_left fun x hx => low x (hl x hx)
    rw [this, List.map_id]
  intro k
  induction k with
  | zero =>
    rw [Nat.add_zero, hc, hr, e0]
    refine ⟨(hpid _ fun x hx => (B0.hc x hx).2).symm, (hpid _ fun x hx => (B0.hr x hx).2).symm, fun j hj => ?_, fun j h1 h2 => by omega⟩
    rw [hp j hj, e0]
    have I := inv b i
    by_cases h0 : 0 ≤ g (st b i).p j
    · rw [low _ (I.pos j hj h0).1]
    · rw [low _ (by omega)]
  | succ k ih =>
    obtain ⟨h1, h2, h3, h4⟩ := ih
    have eb : b' ((i + k + n : Nat) : Int) = b ((i + k : Nat) : Int) := hpost (i + k) (by omega)
    have es : i + (k + 1) + n = (i + k + n) + 1 := by omega
    have es2 : i + (k + 1) = (i + k) + 1 := by omega
    rw [es, es2, st_succ, st_succ, step_c, step_c, step_r, step_r, eb, h1, h2]
    have B := basic b (i + k)
    have B' := basic b' (i + k + n)
    have lp := B.lp
    have lp' := B'.lp
    have pe : put i n ((i + k : Nat) : Int) = ((i + k + n : Nat) : Int) := by unfold put; rw [if_pos (by omega)]; push_cast; omega
    have cn : ((st b (i + k)).c.map (put i n) = []) = ((st b (i + k)).c = []) := propext List.map_eq_nil_iff
    have tt : (st b (i + k)).c ≠ [] → top (st b' (i + k + n)).c = put i n (top (st b (i + k)).c) := fun h => by rw [h1, top_map _ _ h]
    have tr : ∀ h : (st b (i + k)).c ≠ [], 0 ≤ top (st b (i + k)).c ∧ top (st b (i + k)).c < ((i + k : Nat) : Int) := fun h => B.hc _ (top_mem h)
    refine ⟨?_, ?_, fun j hj => ?_, fun j hj1 hj2 => ?_⟩
    · by_cases hR : isR (b ((i + k : Nat) : Int)) = true
      · rw [if_pos hR, if_pos hR, List.map_dropLast]
      · rw [if_neg hR, if_neg hR]
        by_cases hC : isC (b ((i + k : Nat) : Int)) = true
        · rw [if_pos hC, if_pos hC, List.map_append, List.map_singleton, pe]
        · rw [if_neg hC, if_neg hC]
    · by_cases hq : isR (b ((i + k : Nat) : Int)) = true ∧ (st b (i + k)).c = []
      · rw [if_pos ⟨hq.1, by rw [cn]; exact hq.2⟩, if_pos hq, List.map_append, List.map_singleton, pe]
      · rw [if_neg (fun h => hq ⟨h.1, by rw [cn] at h; exact h.2⟩), if_neg hq]
    · rw [p_old _ _ _ j (by omega), p_old _ _ _ j (by omega), h3 j hj]
      by_cases hR : isR (b ((i + k : Nat) : Int)) = true
      · by_cases hne : (st b (i + k)).c = []
        · rw [if_neg (fun h => h.2.1 (by rw [h1, hne]; rfl)), if_neg (fun h => h.2.1 hne)]
        · have t := tr hne
          by_cases ht : (top (st b (i + k)).c).toNat = j
          · rw [if_pos ⟨hR, fun h => hne (by rw [h1] at h; exact List.map_eq_nil_iff.1 h), by rw [tt hne, low _ (by omega)]; exact ht⟩, if_pos ⟨hR, hne, ht⟩, pe]
          · rw [if_neg (fun h => ht (by
                have := h.2.2
                rw [tt hne] at this
                unfold put at this
                split at this <;> omega)), if_neg (fun h => ht h.2.2)]
      · rw [if_neg (fun h => hR h.1), if_neg (fun h => hR h.1)]
    · by_cases hlast : j = i + k
      · subst hlast
        have e1 := p_new (st b' (i + k + n)) ((i + k + n : Nat) : Int) (b ((i + k : Nat) : Int))
        rw [lp'] at e1
        have e2 := p_new (st b (i + k)) ((i + k : Nat) : Int) (b ((i + k : Nat) : Int))
        rw [lp] at e2
        rw [e1, e2]
        by_cases hR : isR (b ((i + k : Nat) : Int)) = true
        · rw [if_pos hR, if_pos hR]
          by_cases hne : (st b (i + k)).c = []
          · rw [if_pos (by rw [h1, hne]; rfl), if_pos hne, low _ (by omega)]
          · rw [if_neg (fun h => hne (by rw [h1] at h; exact List.map_eq_nil_iff.1 h)), if_neg hne, tt hne]
        · rw [if_neg hR, if_neg hR]
          split
          · rw [low _ (by omega)]
          · rw [low _ (by omega)]
      · have hj3 : j < i + k := by omega
        rw [p_old _ _ _ (j + n) (by omega), p_old _ _ _ j (by omega), h4 j hj1 hj3]
        by_cases hR : isR (b ((i + k : Nat) : Int)) = true
        · by_cases hne : (st b (i + k)).c = []
          · rw [if_neg (fun h => h.2.1 (by rw [h1, hne]; rfl)), if_neg (fun h => h.2.1 hne)]
          · have t := tr hne
            by_cases ht : (top (st b (i + k)).c).toNat = j
            · rw [if_pos ⟨hR, fun h => hne (by rw [h1] at h; exact List.map_eq_nil_iff.1 h), by rw [tt hne]; unfold put; rw [if_pos (by omega)]; omega⟩, if_pos ⟨hR, hne, ht⟩, pe]
            · rw [if_neg (fun h => ht (by
                  have := h.2.2
                  rw [tt hne] at this
                  unfold put at this
                  split at this <;> omega)), if_neg (fun h => ht h.2.2)]
        · rw [if_neg (fun h => hR h.1), if_neg (fun h => hR h.1)]
/-- What is left of a partner that is known stays. -/
theorem p_keep (b : Int → Int) (j : Nat) (n : Nat) (hj : j < n) (v : Int) (hv : v ≠ -2) (h : g (st b n).p j = v) : ∀ m, g (st b (n + m)).p j = v
  | 0 => h
  | m + 1 => by
    have ih := p_keep b j n hj v hv h m
    have lp := (basic b (n + m)).lp
    have I := inv b (n + m)
    rw [← Nat.add_assoc, st_succ, p_old _ _ _ j (by omega), ih]
    refine if_neg (fun hh => ?_)
    have ht := top_mem hh.2.1
    obtain ⟨t0, t1⟩ := (basic b (n + m)).hc _ ht
    have hjt : top (st b (n + m)).c = (j : Int) := by omega
    rw [hjt] at ht
    have := (I.m2 j (by omega)).2 (Or.inr ht)
    rw [ih] at this
    exact hv this
end Go.Proofs.Ytgfilbgjnloopaa.Th
namespace Go.Proofs.Ytgfilbgjnloopaa.Th
set_option linter.unusedVariables false
set_option linter.unusedSimpArgs false
theorem isC_notR {b : Int} (h : isC b = true) : isR b = false := by
  cases hR : isR b with
  | false => rfl
  | true => rw [isR_notC hR] at h; cases h
/-- What a return matches is on top of the stack when it comes. -/
theorem top_at {b : Int → Int} {n e : Nat} (he : e < n) (hR : isR (b e) = true) (h : 0 ≤ g (st b n).p e) : (st b e).c ≠ [] ∧ top (st b e).c = g (st b n).p e := by
  have B := basic b e
  have hnew := p_new (st b e) e (b e)
  rw [B.lp, if_pos hR] at hnew
  have hs : st b (e + 1) = step (st b e) e (b e) := rfl
  rw [← hs] at hnew
  by_cases hc : (st b e).c = []
  · rw [if_pos hc] at hnew
    exfalso
    have h1 := ((inv b (e + 1)).m2 e (by omega)).1 hnew
    have hr : (e : Int) ∈ (st b (e + 1)).r := by
      rcases h1 with h1 | h1
      · exact h1
      · have := (inv b (e + 1)).bc e h1
        rw [isR_notC hR] at this
        cases this
    obtain ⟨l, hl⟩ := r_mono b (e + 1) (n - (e + 1))
    rw [show e + 1 + (n - (e + 1)) = n by omega] at hl
    have h2 : (e : Int) ∈ (st b n).r := by rw [hl]; exact List.mem_append_left _ hr
    have := ((inv b n).m2 e he).2 (.inl h2)
    omega
  · rw [if_neg hc] at hnew
    refine ⟨hc, ?_⟩
    have hge := (B.hc _ (top_mem hc)).1
    have := p_keep b e (e + 1) (by omega) (top (st b e).c) (by omega) hnew (n - (e + 1))
    rw [show e + 1 + (n - (e + 1)) = n by omega] at this
    exact this.symm
theorem top_snoc6 (l : List Int) (x : Int) : top (l ++ [x]) = x := by unfold top; simp
/-- Between a call and its return: matched by itself. -/
theorem body_matched {b : Int → Int} {n i e : Nat} (hi : i < n) (he : g (st b n).p i = e) (hie : i < e) : (st (fun j => b ((i + 1 : Nat) + j)) (e - (i + 1))).r = [] ∧ (st (fun j => b ((i + 1 : Nat) + j)) (e - (i + 1))).c = [] := by
  have I := inv b n
  obtain ⟨h1, h2, h3⟩ := I.pos i hi (by omega)
  rw [he, Int.toNat_natCast] at h2
  rw [he] at h1 h3
  have hCi : isC (b i) = true := by
    rcases h3 with h3 | h3
    · exact h3.1
    · omega
  have hen : e < n := by omega
  obtain ⟨_, _, h6⟩ := I.pos e hen (by omega)
  have hRe : isR (b e) = true := by
    rcases h6 with h6 | h6
    · omega
    · exact h6.1
  obtain ⟨hne, htop⟩ := top_at hen hRe (by omega)
  rw [h2] at htop
  have key : ∀ m, m ≤ e - (i + 1) → (st (fun j => b ((i + 1 : Nat) + j)) m).r = [] ∧ (st b (i + 1 + m)).c = (st b (i + 1)).c ++ (st (fun j => b ((i + 1 : Nat) + j)) m).c.map (· + ((i + 1 : Nat) : Int)) := by
    intro m
    induction m with
    | zero => intro _; simp [st]
    | succ m ih =>
      intro hm
      obtain ⟨hr, hc⟩ := ih (by omega)
      have hcx : ((i + 1 : Nat) : Int) + (m : Int) = ((i + 1 + m : Nat) : Int) := by omega
      have hin : (i : Int) ∈ (st b (i + 1 + (m + 1))).c := (onstack b (i + 1 + (m + 1)) n (by omega) i (by omega)).2 ⟨hCi, .inr (by omega)⟩
      have hlast : (st b (i + 1)).c = (st b i).c ++ [(i : Int)] := by rw [st_succ, step_c, if_neg (by rw [isC_notR hCi]; decide), if_pos hCi]
      rw [st_succ, step_r, step_c]
      rw [show i + 1 + (m + 1) = (i + 1 + m) + 1 by omega, st_succ, step_c] at hin ⊢
      rw [hc] at hin ⊢
      simp only [hcx] at hin ⊢
      by_cases hR : isR (b ((i + 1 + m : Nat) : Int)) = true
      · rw [if_pos hR] at hin
        rw [if_pos hR, if_pos hR]
        by_cases h0 : (st (fun j => b ((i + 1 : Nat) + j)) m).c = []
        · exfalso
          rw [h0, List.map_nil, List.append_nil, hlast, List.dropLast_concat] at hin
          have := (basic b i).hc _ hin
          omega
        · rw [if_neg (fun h => h0 h.2)]
          refine ⟨hr, ?_⟩
          rw [dropLast_app _ _ (by simpa using h0), List.map_dropLast]
      · rw [if_neg (fun h => hR h.1), if_neg hR, if_neg hR]
        refine ⟨hr, ?_⟩
        by_cases hC : isC (b ((i + 1 + m : Nat) : Int)) = true
        · rw [if_pos hC, if_pos hC, List.map_append, List.append_assoc]
          simp
          omega
        · rw [if_neg hC, if_neg hC]
  obtain ⟨hr, hc⟩ := key (e - (i + 1)) (Nat.le_refl _)
  refine ⟨hr, ?_⟩
  rw [show i + 1 + (e - (i + 1)) = e by omega] at hc
  by_cases h0 : (st (fun j => b ((i + 1 : Nat) + j)) (e - (i + 1))).c = []
  · exact h0
  · exfalso
    have hm := top_mem h0
    have : top (st b e).c = top (st (fun j => b ((i + 1 : Nat) + j)) (e - (i + 1))).c + ((i + 1 : Nat) : Int) := by
      have e2 : (st (fun j => b ((i + 1 : Nat) + j)) (e - (i + 1))).c.map (· + ((i + 1 : Nat) : Int)) = ((st (fun j => b ((i + 1 : Nat) + j)) (e - (i + 1))).c.dropLast).map (· + ((i + 1 : Nat) : Int)) ++ [top (st (fun j => b ((i + 1 : Nat) + j)) (e - (i + 1))).c + ((i + 1 : Nat) : Int)] := by
        conv => lhs; rw [← dropLast_top h0]
        rw [List.map_append]
        rfl
      rw [hc, e2, ← List.append_assoc]
      exact top_snoc6 _ _
    have h9 := ((basic (fun j => b ((i + 1 : Nat) + j)) (e - (i + 1))).hc _ hm).1
    omega
end Go.Proofs.Ytgfilbgjnloopaa.Th
namespace Go.Proofs.Ytgfilbgjnloopaa.Br
open Go.RowKit Go.Proofs.Ytgfilbgjnloopaa.P Go.Proofs.YtgfilbgjnloopaaW.PrintWords Go.Proofs.YtgfilbgjnloopaaW.PrintLast Go.Proofs.YtgfilbgjnloopaaW.PrintMore Go.Proofs.Ytgfilbgjnloopaa.Th
set_option linter.unusedVariables false
set_option linter.unusedSimpArgs false
set_option linter.unusedSectionVars false
theorem Ev.one {α : Type} {f : Nat → Option α} {a b : α} (h : Ev f a) (k : Ev f b) : a = b := by
  obtain ⟨K, hK⟩ := h
  obtain ⟨M, hM⟩ := k
  have h1 := hK (max K M) (Nat.le_max_left _ _)
  have h2 := hM (max K M) (Nat.le_max_right _ _)
  rw [h1] at h2
  exact Option.some.inj h2
theorem body_mt {w : ByteArray} {i e : Nat} (hi : i < w.size) (he : g (st (bt w) w.size).p i = e) (hie : i < e) (hew : e ≤ w.size) : mtc (w.extract (i + 1) e) = true := by
  obtain ⟨h1, h2⟩ := body_matched hi he hie
  have hs : (w.extract (i + 1) e).size = e - (i + 1) := by rw [ByteArray.size_extract]; omega
  have hc : st (bt (w.extract (i + 1) e)) (w.extract (i + 1) e).size = st (fun j => bt w ((i + 1 : Nat) + j)) (e - (i + 1)) := by
    rw [hs]
    refine st_congr _ fun j hj => ?_
    rw [bt_extract w hew (by omega)]
    congr 1
  unfold mtc
  rw [hc, h1, h2]
  decide
/-- What a factor of a matched word is. -/
def FOk (n : Nat) (f : ByteArray) : Prop := (f.size = 1 ∧ (bt f 0 = 97 ∨ bt f 0 = 98)) ∨ ((2 ≤ f.size ∧ f.size ≤ 60) ∧ (bt f 0 = 40 ∨ bt f 0 = 91) ∧ (bt f ((f.size - 1 : Nat) : Int) = 41 ∨ bt f ((f.size - 1 : Nat) : Int) = 93) ∧ mtc (f.extract 1 (f.size - 1)) = true ∧ okw (f.extract 1 (f.size - 1)) = true ∧ (f.extract 1 (f.size - 1)).size < n)
theorem sym_six {b : Int} (h : 0 ≤ sym b) : b = 40 ∨ b = 91 ∨ b = 41 ∨ b = 93 ∨ b = 97 ∨ b = 98 := by
  unfold sym at h
  split at h
  · omega
  · split at h
    · omega
    · split at h
      · omega
      · split at h
        · omega
        · split at h
          · omega
          · split at h
            · omega
            · omega
theorem fac_ok {a : ByteArray} (hw : okw a = true) (hm : mtc a = true) : ∀ {i : Nat} {L : List ByteArray}, Fac a i L → ∀ f ∈ L, FOk a.size f := by
  intro i L h
  have hs := okw_size hw
  obtain ⟨hr, hc⟩ := mtc_nil hm
  have I := inv (bt a) a.size
  induction h with
  | nil => intro f hf; cases hf
  | @cons i e L h1 h2 h3 h4 h5 h6 ih =>
    intro f hf
    rcases List.mem_cons.1 hf with rfl | hf
    · have hi : i < a.size := by omega
      have hsz : (a.extract i e).size = e - i := by rw [ByteArray.size_extract]; omega
      have b0 : bt (a.extract i e) 0 = bt a i := by
        have := bt_extract a h2 (i := i) (j := 0) (by omega)
        simpa using this
      have hsy := sym_six (okw_sym hw hi)
      by_cases hC : isC (bt a i) = true
      · rw [if_pos hC] at h5
        obtain ⟨hp1, hp2⟩ := (mtc_p hm hi).1 hC
        obtain ⟨q, hq⟩ := Int.eq_ofNat_of_zero_le (show 0 ≤ g (st (bt a) a.size).p i by omega)
        have hqe : q + 1 = e := by omega
        have hqa : q < a.size := by omega
        have hiq : i < q := by omega
        refine .inr ⟨by omega, ?_, ?_, ?_, ?_, ?_⟩
        · rw [b0]
          unfold isC at hC
          simp at hC
          omega
        · have e1 : bt (a.extract i e) (((a.extract i e).size - 1 : Nat) : Int) = bt a (q : Int) := by
            rw [hsz, bt_extract a h2 (by omega)]
            congr 1; omega
          rw [e1]
          have P := I.pos i hi (by omega)
          have pq : g (st (bt a) a.size).p q = i := by
            have := P.2.1
            rw [hq, Int.toNat_natCast] at this
            exact this
          have hR : isR (bt a q) = true := by
            have P2 := I.pos q hqa (by rw [pq]; omega)
            rcases P2.2.2 with h9 | h9
            · have := h9.2; rw [pq] at this; omega
            · exact h9.1
          unfold isR at hR
          simp at hR
          omega
        · have e2 : (a.extract i e).extract 1 ((a.extract i e).size - 1) = a.extract (i + 1) q := by
            rw [ByteArray.extract_extract, hsz]
            congr 1; omega
          rw [e2]
          exact body_mt hi hq hiq (by omega)
        · exact okw_extr (okw_extr hw h2) (by omega)
        · rw [ByteArray.size_extract, hsz]; omega
      · rw [if_neg hC] at h5
        have hR : ¬ isR (bt a i) = true := by
          intro hR
          have e1 := r_nil hr (show i + 1 ≤ a.size by omega)
          rw [st_succ, step_r, if_pos ⟨hR, h3⟩] at e1
          simp at e1
        refine .inl ⟨by omega, ?_⟩
        rw [b0]
        unfold isC at hC
        unfold isR at hR
        simp at hC hR
        omega
    · exact ih f hf
theorem facs_both {a : ByteArray} (hw : okw a = true) (hm : mtc a = true) : ∃ L : List ByteArray, (∀ f ∈ L, FOk a.size f) ∧ Ev (fun k => spec_l01Factors.f k a) L ∧ Ev (fun k => impl_factors.f k a) L ∧ L.length ≤ a.size := by
  have hs := okw_size hw
  have hn : a.size ≤ 1048576 := by omega
  obtain ⟨L, s1, s2, s3⟩ := factors_loop a hn hm _ (st (bt a) a.size).r (st (bt a) a.size).c (st (bt a) a.size).d (st (bt a) a.size).q rfl a.size 0 (by omega) (by omega) [] (by simp)
  obtain ⟨M, m1, m2⟩ := fac_loop a hn hm _ (st (bt a) a.size).r (st (bt a) a.size).c (st (bt a) a.size).d (st (bt a) a.size).q rfl a.size 0 (by omega) (by omega) rfl [] (by simp)
  have e : L = [] ++ M := Ev.one s2 m2
  rw [List.nil_append] at e
  subst e
  refine ⟨L, fac_ok hw hm m1, ?_, ?_, s3⟩
  · unfold spec_l01Factors.f
    exact Ev.bind (partners_ev a hn) s1
  · unfold impl_factors.f
    exact Ev.bind (match_ev a hn) s2
theorem kind_eq {b : Int} (h : b = 40 ∨ b = 91 ∨ b = 41 ∨ b = 93 ∨ b = 97 ∨ b = 98) : impl_kindOf.f b = some (if b = 40 ∨ b = 41 ∨ b = 97 then 0 else 1) := by
  unfold impl_kindOf.f
  rw [index_eq (by omega) (by omega)]
  rcases h with rfl | rfl | rfl | rfl | rfl | rfl <;> rfl
section
variable {P Wr : List (List Int)} {In : List Int} {Ac : List Bool} (hOK : OkAlg P Wr In Ac)
include hOK
theorem okTab : Tab Ac.length P := tab_of hOK.2.1 (fun r hr => hOK.2.2.2.2.1 r (List.mem_append_left _ hr))
theorem okIn (k : Nat) (hk : k < 2) : k < In.length ∧ ∃ x : Nat, rd In (k : Int) = (x : Int) ∧ x < Ac.length := by
  obtain ⟨h1, h2⟩ := areEl_ent hOK.2.2.2.1
  have hl : k < In.length := by omega
  have := h2 (rd In (k : Int)) (by rw [rd_getDI]; exact getD_mem In k 0 hl)
  exact ⟨hl, (rd In (k : Int)).toNat, by omega, by omega⟩
theorem okWr (b e : Nat) (hb : b < 4) (he : e < Ac.length) : b < Wr.length ∧ e < (rd_L1 Wr (b : Int)).length ∧ ∃ x : Nat, rd (rd_L1 Wr (b : Int)) (e : Int) = (x : Int) ∧ x < Ac.length := by
  have hl : b < Wr.length := by have := hOK.2.2.1; omega
  have hm : rd_L1 Wr (b : Int) ∈ Wr := by unfold rd_L1; rw [Int.toNat_natCast]; exact getD_mem Wr b [] hl
  obtain ⟨h1, h2⟩ := areEl_ent (hOK.2.2.2.2.1 _ (List.mem_append_right _ hm))
  have hle : e < (rd_L1 Wr (b : Int)).length := by omega
  have := h2 (rd (rd_L1 Wr (b : Int)) (e : Int)) (by rw [rd_getDI]; exact getD_mem _ e 0 hle)
  exact ⟨hl, hle, (rd (rd_L1 Wr (b : Int)) (e : Int)).toNat, by omega, by omega⟩
/-- A factor's element, in both. -/
def Both (P Wr : List (List Int)) (In : List Int) (Ac : List Bool) (f : ByteArray) : Prop := ∃ x : Nat, x < Ac.length ∧ Ev (fun k => elFac (impl_of.f k P Wr In) Wr In f) (x : Int) ∧ ∀ (L : List ByteArray) (i o : Nat) (R : Int), L.length ≤ 1048576 → i < L.length → rdOf ByteArray.empty L (i : Int) = f → o < Ac.length → Ev (fun k => spec_l04Element.l0 k (rd (rd_L1 P (o : Int)) (x : Int)) L ((i + 1 : Nat) : Int) P Wr In Ac) R → Ev (fun k => spec_l04Element.l0 k (o : Int) L (i : Int) P Wr In Ac) R
theorem fac_both {n : Nat} {f : ByteArray} (hf : FOk n f) (ih : ∀ u : ByteArray, u.size < n → okw u = true → mtc u = true → ∃ r : Nat, r < Ac.length ∧ Ev (fun k => impl_of.f k P Wr In u) (r : Int) ∧ Ev (fun k => spec_l04Element.f k P Wr In Ac u) (r : Int)) : Both P Wr In Ac f := by
  have hT := okTab hOK
  have hP := hT.num
  rcases hf with ⟨h1, h2⟩ | ⟨h1, h2, h3, h4, h5, h6⟩
  · obtain ⟨k, hk, hk2, hk3⟩ : ∃ k : Nat, k < 2 ∧ impl_kindOf.f (bt f 0) = some (k : Int) ∧ (bt f 0 - 97) % 256 = (k : Int) := by
      rcases h2 with h2 | h2
      · exact ⟨0, by decide, by rw [kind_eq (by omega), if_pos (by omega)]; rfl, by rw [h2]; rfl⟩
      · exact ⟨1, by decide, by rw [kind_eq (by omega), if_neg (by omega)]; rfl, by rw [h2]; rfl⟩
    obtain ⟨hl, x, hx, hxn⟩ := okIn hOK k hk
    refine ⟨x, hxn, ?_, ?_⟩
    · unfold elFac
      simp only [if_pos h1, hk2, Option.bind_some, if_pos (show 0 ≤ (k : Int) ∧ (k : Int) < (In.length : Int) by omega), hx]
      exact Ev.now _
    · intro L i o R hL hi hfi ho hR
      have c1 : ((f.size : Nat) : Int) = 1 := by omega
      have c2 : (0 : Int) < (f.size : Int) := by omega
      have c3 : (k : Int) < (In.length : Int) := by omega
      have c4 : (o : Int) < (P.length : Int) := by omega
      have c5 : (x : Int) < ((rd_L1 P (o : Int)).length : Int) := by rw [hT.len o ho]; omega
      refine Ev.succ ?_
      simp only [spec_l04Element.l0, if_pos (ilt hi), if_pos (i0 i), hfi, if_pos c1, if_pos c2, hk3, if_pos (i0 k), if_pos c3, if_pos (i0 o), if_pos c4, hx, if_pos (i0 x), if_pos c5, up1 i (by omega)]
      exact hR
  · obtain ⟨e, he, hi1, hs1⟩ := ih _ h6 h5 h4
    obtain ⟨b, hb, hb2, hb3⟩ : ∃ b : Nat, b < 4 ∧ impl_bracketsOf.f (bt f 0) (bt f ((f.size - 1 : Nat) : Int)) = some (b : Int) ∧ spec_l04Kind.f (bt f 0) (bt f ((f.size - 1 : Nat) : Int)) = some (b : Int) := by
      unfold impl_bracketsOf.f spec_l04Kind.f
      rw [kind_eq (by omega), kind_eq (by omega)]
      rcases h2 with h2 | h2 <;> rcases h3 with h3 | h3 <;> rw [h2, h3]
      · exact ⟨0, by decide, by simp [wrap64], by simp⟩
      · exact ⟨1, by decide, by simp [wrap64], by simp⟩
      · exact ⟨2, by decide, by simp [wrap64], by simp⟩
      · exact ⟨3, by decide, by simp [wrap64], by simp⟩
    obtain ⟨hl, hle, x, hx, hxn⟩ := okWr hOK b e hb he
    refine ⟨x, hxn, ?_, ?_⟩
    · unfold elFac
      simp only [if_neg (show ¬ f.size = 1 by omega), if_pos (show 2 ≤ f.size ∧ f.size ≤ 1048576 by omega), hb2, Option.bind_some]
      refine Ev.bind hi1 ?_
      simp only [if_pos (show (0 ≤ (b : Int) ∧ (b : Int) < (Wr.length : Int)) ∧ 0 ≤ (e : Int) ∧ (e : Int) < ((rd_L1 Wr (b : Int)).length : Int) by omega), hx]
      exact Ev.now _
    · intro L i o R hL hi hfi ho hR
      have w1 : wrap64 ((f.size : Int) - 1) = ((f.size - 1 : Nat) : Int) := by rw [w64 (by omega) (by omega)]; omega
      have c1 : ¬ ((f.size : Nat) : Int) = 1 := by omega
      have c2 : (0 : Int) < (f.size : Int) := by omega
      have c3 : ((f.size - 1 : Nat) : Int) < (f.size : Int) := by omega
      have c4 : (1 : Int) ≤ ((f.size - 1 : Nat) : Int) := by omega
      have c5 : ((f.size - 1 : Nat) : Int) ≤ (f.size : Int) := by omega
      have c6 : (b : Int) < (Wr.length : Int) := by omega
      have c7 : (e : Int) < ((rd_L1 Wr (b : Int)).length : Int) := by omega
      have c8 : (o : Int) < (P.length : Int) := by omega
      have c9 : (x : Int) < ((rd_L1 P (o : Int)).length : Int) := by rw [hT.len o ho]; omega
      refine Ev.succ ?_
      simp only [spec_l04Element.l0, if_pos (ilt hi), if_pos (i0 i), hfi, if_neg c1, if_pos c2, w1, if_pos (i0 (f.size - 1)), if_pos c3, hb3, Option.bind_some, if_pos (i0 b), if_pos c6, if_pos c4, if_pos c5, Int.toNat_natCast, up1 i (by omega)]
      refine Ev.bind hs1 ?_
      simp only [if_pos (i0 e), if_pos c7, if_pos (i0 o), if_pos c8, hx, if_pos (i0 x), if_pos c9]
      exact hR
theorem fold_both (L : List ByteArray) (hL : L.length ≤ 1048576) (hB : ∀ f ∈ L, Both P Wr In Ac f) : ∀ i, i ≤ L.length → ∀ o : Nat, o < Ac.length → ∃ r : Nat, r < Ac.length ∧ Ev (fun k => elFold (elFac (impl_of.f k P Wr In) Wr In) P (L.drop i) (o : Int)) (r : Int) ∧ Ev (fun k => spec_l04Element.l0 k (o : Int) L (i : Int) P Wr In Ac) (r : Int) := by
  have hT := okTab hOK
  have hP := hT.num
  refine down L.length ?_ ?_
  · intro o ho
    refine ⟨o, ho, ?_, Ev.succ ?_⟩
    · rw [List.drop_length]
      simp only [elFold, if_pos (i0 o)]
      exact Ev.now _
    · simp only [spec_l04Element.l0, if_neg inlt]
      exact Ev.now _
  · intro i hi ih o ho
    obtain ⟨x, hx, h1, h2⟩ := hB (rdOf ByteArray.empty L (i : Int)) (by unfold rdOf; rw [Int.toNat_natCast]; exact getD_mem L i _ hi)
    obtain ⟨y, hy, hyn⟩ := hT.ent o x ho hx
    obtain ⟨r, hr, k1, k2⟩ := ih y hyn
    refine ⟨r, hr, ?_, h2 L i o r hL hi rfl ho (by rw [hy]; exact k2)⟩
    have hdr : L.drop i = rdOf ByteArray.empty L (i : Int) :: L.drop (i + 1) := by
      rw [List.drop_eq_getElem_cons hi]
      unfold rdOf
      rw [Int.toNat_natCast, List.getD_eq_getElem?_getD, List.getElem?_eq_getElem hi]
      rfl
    rw [hdr]
    simp only [elFold]
    refine Ev.bind h1 ?_
    have c9 : (x : Int) < ((rd_L1 P (o : Int)).length : Int) := by rw [hT.len o ho]; omega
    simp only [if_pos (show (0 ≤ (o : Int) ∧ (o : Int) < (P.length : Int)) ∧ 0 ≤ (x : Int) ∧ (x : Int) < ((rd_L1 P (o : Int)).length : Int) by omega), hy]
    exact k1
theorem elem_both : ∀ (n : Nat) (u : ByteArray), u.size < n → okw u = true → mtc u = true → ∃ r : Nat, r < Ac.length ∧ Ev (fun k => impl_of.f k P Wr In u) (r : Int) ∧ Ev (fun k => spec_l04Element.f k P Wr In Ac u) (r : Int) := by
  intro n
  induction n with
  | zero => intro u h; omega
  | succ n ih =>
    intro u hu hw hm
    have hs := okw_size hw
    obtain ⟨L, hF, s1, s2, s3⟩ := facs_both hw hm
    have hB : ∀ f ∈ L, Both P Wr In Ac f := fun f hf => fac_both hOK (hF f hf) (fun v hv hw hm => ih v (by omega) hw hm)
    obtain ⟨r, hr, k1, k2⟩ := fold_both hOK L (by omega) hB 0 (by omega) 0 (by have := hOK.1; omega)
    refine ⟨r, hr, Ev.succ ?_, Ev.succ ?_⟩
    · show Ev (fun k => (impl_factors.f k u).bind fun fs => elFold (elFac (impl_of.f k P Wr In) Wr In) P fs 0) (r : Int)
      refine Ev.bind s2 ?_
      rw [List.drop_zero] at k1
      exact k1
    · simp only [spec_l04Element.f]
      exact Ev.bind s1 k2
end
/-- What ElementOf tells. -/
theorem element_both {P Wr : List (List Int)} {In : List Int} {Ac : List Bool} (hP : P.length ≤ 1048576 ∧ ∀ r ∈ P, r.length ≤ 1048576) (hW : Wr.length ≤ 1048576 ∧ ∀ r ∈ Wr, r.length ≤ 1048576) (hI : In.length ≤ 1048576) (hA : Ac.length ≤ 1048576) (u : ByteArray) (hn : u.size ≤ 1048576) :
    (∃ R : Int × Int, Ev (fun k => impl_ElementOf.f k P Wr In Ac u) R ∧ ((R.2 ≠ 0 ∧ Ev (fun k => spec_l04Given.f k P Wr In Ac u) R.2 ∧ R.1 = 0) ∨ (R.2 = 0 ∧ Ev (fun k => spec_l04Given.f k P Wr In Ac u) 0 ∧ Ev (fun k => spec_l04Element.f k P Wr In Ac u) R.1 ∧ 0 ≤ R.1 ∧ R.1 < (Ac.length : Int)))) := by
  unfold impl_ElementOf.f spec_l04Given.f
  have hg := specAlg_ev (P := P) (Wr := Wr) (In := In) (Ac := Ac) hP hW hI hA
  cases hok : okAlg P Wr In Ac with
  | false =>
    rw [hok] at hg
    refine ⟨(0, 1), ?_, .inl ⟨by decide, ?_, rfl⟩⟩
    · simp only [Bool.false_eq_true, if_false]; exact Ev.now _
    · refine Ev.bind hg ?_
      simp only [Bool.false_eq_true, if_false]
      refine Ev.succ ?_
      simp only [spec_l04Given.j0, if_true]
      exact Ev.now _
  | true =>
    rw [hok] at hg
    cases hw : okw u with
    | false =>
      refine ⟨(0, 1), ?_, .inl ⟨by decide, ?_, rfl⟩⟩
      · simp only [if_true]
        refine Ev.bind (valid_ev u hn) ?_
        simp only [hw, Bool.false_eq_true, if_false]; exact Ev.now _
      · refine Ev.bind hg ?_
        simp only [if_true]
        refine Ev.bind (specOk_ev u hn) ?_
        simp only [hw, Bool.not_false]
        refine Ev.succ ?_
        simp only [spec_l04Given.j0, if_true]
        exact Ev.now _
    | true =>
      cases hm : mtc u with
      | false =>
        refine ⟨(0, 4), ?_, .inl ⟨by decide, ?_, rfl⟩⟩
        · simp only [if_true]
          refine Ev.bind (valid_ev u hn) ?_
          simp only [hw, if_true]
          refine Ev.bind (iMatched_ev u hn) ?_
          simp only [hm, Bool.false_eq_true, if_false]; exact Ev.now _
        · refine Ev.bind hg ?_
          simp only [if_true]
          refine Ev.bind (specOk_ev u hn) ?_
          simp only [hw, Bool.not_true]
          refine Ev.succ ?_
          simp only [spec_l04Given.j0, Bool.false_eq_true, if_false]
          refine Ev.bind (sMatched_ev u hn) ?_
          simp only [hm, Bool.false_eq_true, if_false]; exact Ev.now _
      | true =>
        have hOK : OkAlg P Wr In Ac := by
          have h9 := hok
          unfold okAlg at h9
          have h8 := oT h9
          exact h8
        obtain ⟨r, hr, k1, k2⟩ := elem_both hOK (u.size + 1) u (by omega) hw hm
        refine ⟨((r : Int), 0), ?_, .inr ⟨rfl, ?_, k2, by simp, by simp only; omega⟩⟩
        · simp only [if_true]
          refine Ev.bind (valid_ev u hn) ?_
          simp only [hw, if_true]
          refine Ev.bind (iMatched_ev u hn) ?_
          simp only [hm, if_true]
          exact Ev.bind k1 (Ev.now _)
        · refine Ev.bind hg ?_
          simp only [if_true]
          refine Ev.bind (specOk_ev u hn) ?_
          simp only [hw, Bool.not_true]
          refine Ev.succ ?_
          simp only [spec_l04Given.j0, Bool.false_eq_true, if_false]
          refine Ev.bind (sMatched_ev u hn) ?_
          simp only [hm, if_true]; exact Ev.now _
end Go.Proofs.Ytgfilbgjnloopaa.Br
namespace Go.Proofs.Ytgfilbgjnloopaa.Pure
open Go.RowKit Go.Proofs.Ytgfilbgjnloopaa.P Go.Proofs.YtgfilbgjnloopaaW.PrintWords Go.Proofs.YtgfilbgjnloopaaW.PrintLast Go.Proofs.YtgfilbgjnloopaaW.PrintMore Go.Proofs.Ytgfilbgjnloopaa.Br Go.Proofs.Ytgfilbgjnloopaa.Th
set_option linter.unusedVariables false
set_option linter.unusedSimpArgs false
theorem tk_both {P Wr : List (List Int)} {In : List Int} {Ac : List Bool} (hP : P.length ≤ 1048576 ∧ ∀ r ∈ P, r.length ≤ 1048576) (hW : Wr.length ≤ 1048576 ∧ ∀ r ∈ Wr, r.length ≤ 1048576) (hI : In.length ≤ 1048576) (hA : Ac.length ≤ 1048576) (u : ByteArray) (hn : u.size ≤ 1048576) : ∃ R : Bool × Int, Ev (fun k => spec_AlgebraTakes.f k P Wr In Ac u) R ∧ Ev (fun k => impl_AlgebraTakes.f k P Wr In Ac u) R := by
  obtain ⟨⟨x, c⟩, h1, h2⟩ := element_both hP hW hI hA u hn
  unfold spec_AlgebraTakes.f impl_AlgebraTakes.f
  rcases h2 with ⟨hc, hg, hx⟩ | ⟨hc, hg, he, b1, b2⟩
  · simp only at hc hx
    refine ⟨(false, c), Ev.bind hg ?_, Ev.bind h1 ?_⟩
    · simp only [if_neg hc]; exact Ev.now _
    · simp only [if_neg hc]; exact Ev.now _
  · simp only at hc b1 b2
    subst hc
    refine ⟨(rdOf false Ac x, 0), Ev.bind hg ?_, Ev.bind h1 ?_⟩
    · simp only [if_true]
      refine Ev.bind he ?_
      simp only [if_pos b1, if_pos b2]
      exact Ev.now _
    · simp only [if_true, if_pos b1, if_pos b2]
      exact Ev.now _
theorem FnExactAlgebraTakes : laws_FnExactAlgebraTakes.Pure := by
  intro l0 l1 l2 l3 a h0 h1 h2 h3 _
  refine Ev.rounds ?_
  unfold laws_FnExactAlgebraTakes.f
  by_cases c0 : (a.size : Int) > 1048576
  · simp only [if_pos c0]; exact Ev.now _
  simp only [if_neg c0]
  have na : a.size ≤ 1048576 := by omega
  obtain ⟨r, hr, hr2⟩ := laws_szAlgebra_ev l0 l1 l2 l3 1048576 (by omega) (by omega) ⟨h0.1, fun x hx => (h0.2 x hx).1⟩ ⟨h1.1, fun x hx => (h1.2 x hx).1⟩ h2.1 h3.1
  refine Ev.bind hr ?_
  by_cases n0 : r < 0
  · simp only [if_pos n0]; exact Ev.now _
  simp only [if_neg n0]
  rcases hr2 with hr2 | hr2
  · exact absurd hr2 n0
  obtain ⟨_, _, s0, s1, s2, s3⟩ := hr2
  have t := laws_toAlgebra_ev l0 l1 l2 l3 s0 s1 s2 s3
  obtain ⟨R, hs, hi⟩ := tk_both ⟨s0.1, fun x hx => s0.2 x hx⟩ ⟨s1.1, fun x hx => s1.2 x hx⟩ s2 s3 a na
  refine Ev.bind t (Ev.bind hs (Ev.bind t (Ev.bind hi ?_)))
  simp only [if_true, bne_self_eq_false, Bool.false_eq_true, if_false]
  refine Ev.succ ?_
  simp only [laws_FnExactAlgebraTakes.j0, Bool.false_eq_true, if_false]
  refine Ev.bind t (Ev.bind (laws_eqAlgebra_ev l0 l1 l2 l3 s0 s1 s2 s3) ?_)
  simp only [if_true]
  exact Ev.now _
end Go.Proofs.Ytgfilbgjnloopaa.Pure
namespace Go.Proofs.Ytgfilbgjnloopaa.fnExactAlgebraTakes
open Go.ChangeShapes Go.WideShapes Go.ChangeAt Go.RowKit Go.Proofs.YtgfilbgjnloopaaW.PrintWords Go.Proofs.YtgfilbgjnloopaaW.PrintLast Go.Proofs.Ytgfilbgjnloopaa.P
open Go.ChangeMaps (open_string shut_string)
set_option linter.unusedVariables false
def Of (P : Program) (t : TypeId) {α : Type} (d : Kd α) (ok : α → Prop) : Prop :=
 ∀ (H : Type) (enc : TypeId × Value → H) (W : World) (n : Nat) (cs : List Value) (x : DataW H × List MemPlace), DataW.trod enc P W 0 (fun _ => true) true n t cs = some x → ∃ v, d.K W v cs ∧ ok v
def OfFs (P : Program) (off : Nat) (fs : List Field) {α : Type} (d : Kd α) (ok : α → Prop) : Prop :=
 ∀ (H : Type) (enc : TypeId × Value → H) (W : World) (n : Nat) (cs : List Value), cs.length = off + d.sz →
  (∀ f ∈ fs, ∃ y, DataW.trod enc P W 0 (fun _ => true) true n f.type ((cs.drop f.offset).take (P.cellsOf f.type)) = some y) → ∃ v, d.K W v (cs.drop off) ∧ ok v
section
variable {P : Program} {t : TypeId}
theorem of_int {k : IntKind} (ht : P.underlying t = some (.int k)) : Of P t (Kd.int k) (fun n => (Lit.int k n).wf = true) := by
 intro H enc W n cs x h
 obtain ⟨v, rfl, _, hw⟩ := DataW.trod_int ht h
 exact ⟨v, rfl, hw⟩
theorem of_bool (ht : P.underlying t = some .bool) : Of P t Kd.bool (fun _ => True) := by
 intro H enc W n cs x h
 obtain ⟨v, rfl, _⟩ := DataW.trod_bool ht h
 exact ⟨v, rfl, trivial⟩
theorem of_slice {e : TypeId} {α : Type} {d : Kd α} {ok : α → Prop} (ht : P.underlying t = some (.slice e)) (hC : P.cellsOf e = d.sz) (he : Of P e d ok) :
  Of P t (Kd.slice e d) (fun l => l.length ≤ maxLen ∧ ∀ x ∈ l, ok x) := by
 intro H enc W fuel cs x h
 rcases Go.Deep.open_slice ht h with ⟨rfl, _⟩ | ⟨a, len, cap, m, n, D, Pl, rfl, _, hl, hm, hmm, _, hi⟩
 ·exact ⟨[], ⟨none, 0, rfl, Nat.le_refl _, Kd.C_nil _ _⟩, by simp, by simp⟩
 ·have hle : len ≤ m := by rw [hmm]; simpa using hl
  have key : ∀ q, q ≤ len → ∃ l : List α, l.length = q ∧ ∀ j p, l[j]? = some p → ∃ cs', W.cells? 0 (a.add (j * d.sz)) d.sz = some cs' ∧ d.K W p cs' ∧ ok p := by
   intro q
   induction q with
   | zero => exact fun _ => ⟨[], rfl, fun j p hj => by simp at hj⟩
   | succ q ih =>
    intro hq
    obtain ⟨l, hll, hp⟩ := ih (by omega)
    obtain ⟨cs', h1, h2⟩ := hi q (by omega)
    rw [hC] at h1
    obtain ⟨v, hK, ho⟩ := he H enc W n cs' _ h2
    refine ⟨l ++ [v], by simp [hll], fun j p hj => ?_⟩
    by_cases hjl : j < l.length
    ·rw [List.getElem?_append_left hjl] at hj
     exact hp j p hj
    ·have hj2 : j = l.length := by
      have := (List.getElem?_eq_some_iff.1 hj).1
      simp at this
      omega
     subst hj2
     simp at hj
     subst hj
     exact ⟨cs', by rw [hll]; exact h1, hK, ho⟩
  obtain ⟨l, hll, hp⟩ := key len (Nat.le_refl _)
  have hlm : l.length ≤ maxLen := by rw [hll]; exact Nat.le_trans hl hm
  refine ⟨l, ⟨some a, cap, by rw [hll], by omega, ⟨rfl, hlm, fun _ => ⟨a, rfl, fun j p hj => ?_⟩⟩⟩, hlm, fun p hpm => ?_⟩
  ·obtain ⟨cs', h1, hK, _⟩ := hp j p hj
   obtain ⟨_, hlen, hat⟩ := World.cells?_some h1
   refine ⟨cs', hlen, hK, fun i u hu => ?_⟩
   have hlt : i < d.sz := by rw [← hlen]; exact (List.getElem?_eq_some_iff.1 hu).1
   rw [← Go.Deep.add_add, hat i hlt, hu]
  ·obtain ⟨j, hj⟩ := List.getElem?_of_mem hpm
   obtain ⟨_, _, _, ho⟩ := hp j p hj
   exact ho
theorem fs_one {f : Field} {off : Nat} {α : Type} {d : Kd α} {ok : α → Prop} (ho : f.offset = off) (hC : P.cellsOf f.type = d.sz) (h : Of P f.type d ok) : OfFs P off [f] d ok := by
 intro H enc W n cs hl hf
 obtain ⟨y, hy⟩ := hf f (by simp)
 rw [ho, hC, List.take_of_length_le (by simp; omega)] at hy
 exact h H enc W n _ y hy
theorem fs_more {f : Field} {fs : List Field} {off : Nat} {α β : Type} {d : Kd α} {d2 : Kd β} {ok : α → Prop} {ok2 : β → Prop} (ho : f.offset = off) (hC : P.cellsOf f.type = d.sz) (h : Of P f.type d ok) (h2 : OfFs P (off + d.sz) fs d2 ok2) :
  OfFs P off (f :: fs) (Kd.pair d d2) (fun p => ok p.1 ∧ ok2 p.2) := by
 intro H enc W n cs hl hf
 have hl' : cs.length = off + d.sz + d2.sz := hl.trans (Nat.add_assoc _ _ _).symm
 obtain ⟨y, hy⟩ := hf f (by simp)
 rw [ho, hC] at hy
 obtain ⟨v, hK, hv⟩ := h H enc W n _ y hy
 obtain ⟨v2, hK2, hv2⟩ := h2 H enc W n cs hl' (fun g hg => hf g (List.mem_cons_of_mem _ hg))
 refine ⟨(v, v2), ⟨(cs.drop off).take d.sz, cs.drop (off + d.sz), ?_, hK, hK2⟩, hv, hv2⟩
 rw [← List.drop_drop, List.take_append_drop]
theorem of_struct {fs : Array Field} {α : Type} {d : Kd α} {ok : α → Prop} (ht : P.underlying t = some (.struct fs)) (hC : P.cellsOf t = d.sz) (h : OfFs P 0 fs.toList d ok) : Of P t d ok := by
 intro H enc W fuel cs x hx
 obtain ⟨xs, n, _, _, hlen, hxl, hf⟩ := DataW.trod_struct ht hx
 refine h H enc W n cs (by omega) (fun f hfm => ?_)
 obtain ⟨j, hj⟩ := List.getElem?_of_mem hfm
 have hj2 : fs[j]? = some f := by simpa using hj
 have hlt : j < xs.length := by rw [hxl]; exact (Array.getElem?_eq_some_iff.1 hj2).1
 exact ⟨_, (hf j f hj2).trans (List.getElem?_eq_getElem hlt)⟩
end
theorem own : ownKnob Try.prog.godebug = none := by kernel_rfl
theorem laidOut : laidOutB Try.prog = true := by kernel_rfl
theorem of2 : Of Try.prog 2 (Kd.int .i64) (fun n : Int => (Lit.int .i64 n).wf = true) := of_int Try.underlying2
theorem of23 : Of Try.prog 23 (Kd.slice 2 (Kd.int .i64)) (fun l : List Int => l.length ≤ maxLen ∧ ∀ x ∈ l, (fun n : Int => (Lit.int .i64 n).wf = true) x) := of_slice Try.underlying23 (by kernel_rfl) of2
theorem of22 : Of Try.prog 22 (Kd.slice 23 (Kd.slice 2 (Kd.int .i64))) (fun l : List (List Int) => l.length ≤ maxLen ∧ ∀ x ∈ l, (fun l : List Int => l.length ≤ maxLen ∧ ∀ x ∈ l, (fun n : Int => (Lit.int .i64 n).wf = true) x) x) := of_slice Try.underlying22 (by kernel_rfl) of23
theorem of4 : Of Try.prog 4 Kd.bool (fun _ : Bool => True) := of_bool Try.underlying4
theorem of24 : Of Try.prog 24 (Kd.slice 4 Kd.bool) (fun l : List Bool => l.length ≤ maxLen ∧ ∀ x ∈ l, (fun _ : Bool => True) x) := of_slice Try.underlying24 (by kernel_rfl) of4
theorem of26t : Of Try.prog 26 (Kd.pair (Kd.slice 23 (Kd.slice 2 (Kd.int .i64))) (Kd.pair (Kd.slice 23 (Kd.slice 2 (Kd.int .i64))) (Kd.pair (Kd.slice 2 (Kd.int .i64)) (Kd.slice 4 Kd.bool)))) (fun p : ((List (List Int)) × (((List (List Int)) × (((List Int) × (List Bool)))))) => (fun l : List (List Int) => l.length ≤ maxLen ∧ ∀ x ∈ l, (fun l : List Int => l.length ≤ maxLen ∧ ∀ x ∈ l, (fun n : Int => (Lit.int .i64 n).wf = true) x) x) p.1 ∧ (fun p : ((List (List Int)) × (((List Int) × (List Bool)))) => (fun l : List (List Int) => l.length ≤ maxLen ∧ ∀ x ∈ l, (fun l : List Int => l.length ≤ maxLen ∧ ∀ x ∈ l, (fun n : Int => (Lit.int .i64 n).wf = true) x) x) p.1 ∧ (fun p : ((List Int) × (List Bool)) => (fun l : List Int => l.length ≤ maxLen ∧ ∀ x ∈ l, (fun n : Int => (Lit.int .i64 n).wf = true) x) p.1 ∧ (fun l : List Bool => l.length ≤ maxLen ∧ ∀ x ∈ l, (fun _ : Bool => True) x) p.2) p.2) p.2) := by
 refine of_struct Try.underlying26 (by kernel_rfl) ?_
 exact (fs_more (ok := (fun l : List (List Int) => l.length ≤ maxLen ∧ ∀ x ∈ l, (fun l : List Int => l.length ≤ maxLen ∧ ∀ x ∈ l, (fun n : Int => (Lit.int .i64 n).wf = true) x) x)) (ok2 := (fun p : ((List (List Int)) × (((List Int) × (List Bool)))) => (fun l : List (List Int) => l.length ≤ maxLen ∧ ∀ x ∈ l, (fun l : List Int => l.length ≤ maxLen ∧ ∀ x ∈ l, (fun n : Int => (Lit.int .i64 n).wf = true) x) x) p.1 ∧ (fun p : ((List Int) × (List Bool)) => (fun l : List Int => l.length ≤ maxLen ∧ ∀ x ∈ l, (fun n : Int => (Lit.int .i64 n).wf = true) x) p.1 ∧ (fun l : List Bool => l.length ≤ maxLen ∧ ∀ x ∈ l, (fun _ : Bool => True) x) p.2) p.2)) (by rfl) (by kernel_rfl) of22 (fs_more (ok := (fun l : List (List Int) => l.length ≤ maxLen ∧ ∀ x ∈ l, (fun l : List Int => l.length ≤ maxLen ∧ ∀ x ∈ l, (fun n : Int => (Lit.int .i64 n).wf = true) x) x)) (ok2 := (fun p : ((List Int) × (List Bool)) => (fun l : List Int => l.length ≤ maxLen ∧ ∀ x ∈ l, (fun n : Int => (Lit.int .i64 n).wf = true) x) p.1 ∧ (fun l : List Bool => l.length ≤ maxLen ∧ ∀ x ∈ l, (fun _ : Bool => True) x) p.2)) (by rfl) (by kernel_rfl) of22 (fs_more (ok := (fun l : List Int => l.length ≤ maxLen ∧ ∀ x ∈ l, (fun n : Int => (Lit.int .i64 n).wf = true) x)) (ok2 := (fun l : List Bool => l.length ≤ maxLen ∧ ∀ x ∈ l, (fun _ : Bool => True) x)) (by rfl) (by kernel_rfl) of23 (fs_one (by rfl) (by kernel_rfl) of24))))
set_option maxRecDepth 100000 in
set_option maxHeartbeats 4000000 in
theorem lifted (os : Os) (started : os.Started) (H : Type) (enc : TypeId × Value → H) :
  ReturnsInHanded {} Try.checked os 6 .any (Rows.fnExactAlgebraTakesSpec.pre6 enc Try.prog Try.f6 Rows.fnExactAlgebraTakesRow.domain false) (Rows.fnExactAlgebraTakesSpec.post enc Try.prog Try.f6 false true false false) := by
 refine returnsInHanded_of_change_sized (C := Try.checked) own started (by kernel_rfl) Try.func6
  (ChangeSpec.witness6 (enc := enc) (C := Try.checked) false ⟨#[], #[.agg #[.slice none 0 0, .slice none 0 0, .slice none 0 0, .slice none 0 0], .string ByteArray.empty], []⟩ 8 (by kernel_rfl) (by kernel_rfl) (by kernel_rfl) (by kernel_rfl)) ?_
 intro W base args ds gs before hval0 hW hcnd hsz0 _
 have hval : ∀ (j : Nat) t v, Try.f6.params[j]? = some t → args[j]? = some v → Value.okWide Try.prog W .any base t v := hval0
 have hW' := hW
 obtain ⟨p, q, hA0, hV, rfl, hfz, hnd⟩ := hW
 have hA : DataW.TrodAll enc Try.prog W 0 (fun _ => true) true Try.f6.params.toList args.toList ds p := hA0
 rw [Try.params6] at hA hval
 obtain ⟨v0, vs0, d0, ds0, p0, q0, hargs, rfl, rfl, h0, r0⟩ := trodAll_cons hA
 obtain ⟨v1, vs1, d1, ds1, p1, q1, rfl, rfl, rfl, h1, r1⟩ := trodAll_cons r0
 obtain ⟨rfl, rfl, rfl⟩ := trodAll_nil r1
 obtain rfl : args = #[v0, v1] := by cases args; simp_all
 obtain ⟨rfl, rfl⟩ := trodVars_none hV
 have k0 := h0
 have lt0 : ∀ x ∈ p0, x.block < W.heap.size := by obtain ⟨m, hm⟩ := k0; exact DataW.trod_lt m _ _ _ hm
 obtain ⟨fu0, hf0⟩ := h0
 obtain ⟨x0, hK0, ho0⟩ := of26t H enc W _ _ _ hf0
 obtain ⟨cs0, rfl, _⟩ := okWide_struct Try.underlying26 (hval 0 26 v0 rfl rfl)
 obtain ⟨_, _, hcs0, ⟨A0_0, c0_0, rfl, hc0_0, hr0_0⟩, ⟨_, _, rfl, ⟨A0_1, c0_1, rfl, hc0_1, hr0_1⟩, ⟨_, _, rfl, ⟨A0_2, c0_2, rfl, hc0_2, hr0_2⟩, ⟨A0_3, c0_3, rfl, hc0_3, hr0_3⟩⟩⟩⟩ := hK0
 obtain rfl : cs0 = #[.slice A0_0 (x0).1.length c0_0, .slice A0_1 ((x0).2).1.length c0_1, .slice A0_2 (((x0).2).2).1.length c0_2, .slice A0_3 (((x0).2).2).2.length c0_3] := by
  have hcs_ : cs0.toList = _ := hcs0
  exact Array.toList_inj.1 (hcs_.trans rfl)
 obtain ⟨a1, rfl, rfl, rfl, y1⟩ := open_string Try.underlying9 (hval 1 9 v1 rfl rfl) h1
 clear hA0 hval0 hsz0
 obtain ⟨k, hk⟩ := Pure.FnExactAlgebraTakes ((x0).1) (((x0).2).1) ((((x0).2).2).1) ((((x0).2).2).2) a1 ho0.1 ho0.2.1 ho0.2.2.1 ho0.2.2.2 y1
 refine (P.laws_FnExactAlgebraTakes.calls k A0_0 c0_0 ((x0).1) A0_1 c0_1 (((x0).2).1) A0_2 c0_2 ((((x0).2).2).1) A0_3 c0_3 ((((x0).2).2).2) a1 true W hr0_0 hc0_0 hr0_1 hc0_1 hr0_2 hc0_2 hr0_3 hc0_3 hk).mono fun e W' hp => ?_
 obtain ⟨he, bel0⟩ := hp
 have bel : Below W.heap.size W W' := bel0
 subst he
 exact ⟨_, rfl, _, _, _, [], _, [], hW', trodAll_mk1 (shut_bool Try.underlying4 _), (trodAll_cons_mk (Below.trod laidOut (by kernel_rfl) (oT (by kernel_rfl)) k0 bel lt0) (trodAll_cons_mk (shut_string Try.underlying9 y1) trodAll_mk0)), rfl, bel.frame _, fun h => by cases h⟩
end Go.Proofs.Ytgfilbgjnloopaa.fnExactAlgebraTakes
