/- In a drawn word calls and returns match both ways, with a matched word between them; what is pending is what the core has, and the turned word matches at the turned places: for all bytes, the law's function answers true. -/
import Derived.Test.YthhmkkclmopkhaaPx11
import Derived.Test.YthhmkkclmopkhaaPx15
import Derived.Test.YthhmkkclmopkhaaPx16
import Derived.Test.YthhmkkclmopkhaaPx18
import Derived.Test.YthhmkkclmopkhaaPx19
import Derived.Test.YthhmkkclmopkhaaPx22
import Derived.Test.YthhmkkclmopkhaaPx27
import Derived.Test.YthhmkkclmopkhaaPx28
import Derived.Test.YthhmkkclmopkhaaPx32
import Derived.Test.YthhmkkclmopkhaaPx35
import Derived.Test.YthhmkkclmopkhaaPx38
import Derived.Test.YthhmkkclmopkhaaPx39
import Derived.Test.YthhmkkclmopkhaaPx40
import Derived.Test.YthhmkkclmopkhaaPx41
import Derived.Test.YthhmkkclmopkhaaPx42
import Derived.Test.YthhmkkclmopkhaaPx43
import Derived.Test.YthhmkkclmopkhaaPx48
import Derived.Test.YthhmkkclmopkhaaPx49
import Derived.Test.YthhmkkclmopkhaaPx50
import Derived.Test.YthhmkkclmopkhaaPx51
import Derived.Test.YthhmkkclmopkhaaPx52
import Derived.Test.YthhmkkclmopkhaaPx53
import Derived.Test.YthhmkkclmopkhaaPx54
import Derived.Test.YthhmkkclmopkhaaPx57
import Derived.Test.YthhmkkclmopkhaaPx6
import Derived.Test.YthhmkkclmopkhaaPx14
import Derived.Test.YthhmkkclmopkhaaPx17
import Derived.Test.YthhmkkclmopkhaaPx20
import Derived.Test.YthhmkkclmopkhaaPx21
namespace Go.Proofs.Ythhmkkclmopkhaa.Th

def isC (b : Int) : Bool := b == 40 || b == 91
def isR (b : Int) : Bool := b == 41 || b == 93

structure St where
  p : List Int
  r : List Int
  c : List Int
  d : List Int
  q : List Int

def top (c : List Int) : Int := c.getLast?.getD (-1)

def step (s : St) (i b : Int) : St :=
  if isR b = true then
    if s.c = [] then ⟨s.p ++ [-2], s.r ++ [i], [], s.d ++ [0], s.q ++ [-1]⟩
    else ⟨s.p.set (top s.c).toNat i ++ [top s.c], s.r, s.c.dropLast, s.d ++ [(s.c.dropLast.length : Int)], s.q ++ [top s.c.dropLast]⟩
  else if isC b = true then ⟨s.p ++ [-2], s.r, s.c ++ [i], s.d ++ [(s.c.length : Int) + 1], s.q ++ [top s.c]⟩
  else ⟨s.p ++ [-1], s.r, s.c, s.d ++ [(s.c.length : Int)], s.q ++ [top s.c]⟩

def st (b : Int → Int) : Nat → St
  | 0 => ⟨[], [], [], [0], []⟩
  | n + 1 => step (st b n) n (b n)

theorem isR_notC {b : Int} (h : isR b = true) : isC b = false := by
  unfold isR at h; unfold isC
  simp at h ⊢
  omega

structure Basic (s : St) (n : Nat) : Prop where
  lp : s.p.length = n
  lq : s.q.length = n
  ld : s.d.length = n + 1
  lr : s.r.length ≤ n
  lc : s.c.length ≤ n
  hc : ∀ x ∈ s.c, 0 ≤ x ∧ x < n
  hr : ∀ x ∈ s.r, 0 ≤ x ∧ x < n

theorem top_mem {c : List Int} (h : c ≠ []) : top c ∈ c := by
  unfold top
  rw [List.getLast?_eq_some_getLast h]
  exact List.getLast_mem h

theorem basic (b : Int → Int) : ∀ n, Basic (st b n) n
  | 0 => by constructor <;> simp [st]
  | n + 1 => by
    have ih := basic b n
    obtain ⟨h1, h2, h3, h4, h5, h6, h7⟩ := ih
    unfold st step
    split
    · split
      · constructor <;> simp_all
        · intro x hx; rcases hx with hx | hx
          · have := h7 x hx; omega
          · omega
      · rename_i hne
        have hd : ∀ x ∈ (st b n).c.dropLast, x ∈ (st b n).c := fun x hx => List.dropLast_subset _ hx
        constructor
        · simp; exact h1
        · simp; exact h2
        · simp; exact h3
        · simp; omega
        · simp; omega
        · intro x hx; have := h6 x (hd x hx); constructor <;> omega
        · intro x hx; have := h7 x hx; constructor <;> omega
    · split
      · constructor
        · simp; exact h1
        · simp; exact h2
        · simp; exact h3
        · simp; omega
        · simp; omega
        · intro x hx
          rcases List.mem_append.1 hx with hx | hx
          · have := h6 x hx; constructor <;> omega
          · simp at hx; omega
        · intro x hx; have := h7 x hx; constructor <;> omega
      · constructor
        · simp; exact h1
        · simp; exact h2
        · simp; exact h3
        · simp; omega
        · simp; omega
        · intro x hx; have := h6 x hx; constructor <;> omega
        · intro x hx; have := h7 x hx; constructor <;> omega


def g (l : List Int) (j : Nat) : Int := l.getD j 0

theorem g_append_left {l m : List Int} {j : Nat} (h : j < l.length) : g (l ++ m) j = g l j := by
  unfold g; simp [List.getD_eq_getElem?_getD, List.getElem?_append_left h]
theorem g_append_end {l : List Int} {x : Int} {j : Nat} (h : j = l.length) : g (l ++ [x]) j = x := by
  subst h; unfold g; simp [List.getD_eq_getElem?_getD]
theorem g_set {l : List Int} {t j : Nat} {x : Int} : g (l.set t x) j = if t = j ∧ j < l.length then x else g l j := by
  unfold g
  simp only [List.getD_eq_getElem?_getD, List.getElem?_set]
  by_cases h : t = j
  · subst h
    by_cases h2 : t < l.length
    · simp [h2]
    · simp [h2]
  · simp [h]

structure Inv (b : Int → Int) (s : St) (n : Nat) : Prop where
  ba : Basic s n
  inc : (s.r ++ s.c).Pairwise (· < ·)
  m2 : ∀ j : Nat, j < n → (g s.p j = -2 ↔ (j : Int) ∈ s.r ∨ (j : Int) ∈ s.c)
  br : ∀ j : Nat, (j : Int) ∈ s.r → isR (b j) = true
  bc : ∀ j : Nat, (j : Int) ∈ s.c → isC (b j) = true
  m1 : ∀ j : Nat, j < n → (g s.p j = -1 ↔ isC (b j) = false ∧ isR (b j) = false)
  pos : ∀ j : Nat, j < n → 0 ≤ g s.p j → g s.p j < n ∧ g s.p (g s.p j).toNat = j ∧ ((isC (b j) = true ∧ (j : Int) < g s.p j) ∨ (isR (b j) = true ∧ g s.p j < j))
  lo : ∀ j : Nat, j < n → -2 ≤ g s.p j

theorem pw_mem {l : List Int} {x : Int} (h : (l ++ [x]).Pairwise (· < ·)) : ∀ y ∈ l, y < x := by
  intro y hy
  exact (List.pairwise_append.1 h).2.2 y hy x (by simp)

theorem dropLast_top {c : List Int} (h : c ≠ []) : c.dropLast ++ [top c] = c := by
  unfold top
  rw [List.getLast?_eq_some_getLast h]
  exact List.dropLast_concat_getLast h

theorem inv (b : Int → Int) : ∀ n, Inv b (st b n) n
  | 0 => by
    constructor <;> first | exact basic b 0 | simp [st]
  | n + 1 => by
    have ih := inv b n
    have hba := basic b (n + 1)
    have hst : st b (n + 1) = step (st b n) n (b n) := rfl
    obtain ⟨B, inc, m2, br, bc, m1, pos, lo⟩ := ih
    obtain ⟨lp, lq, ld, lr, lc, hc, hr⟩ := B
    generalize hs : st b n = s at *
    rw [hst] at hba ⊢
    by_cases hR : isR (b n) = true
    · have hC := isR_notC hR
      by_cases he : s.c = []
      · have e : step s n (b n) = ⟨s.p ++ [-2], s.r ++ [(n : Int)], [], s.d ++ [0], s.q ++ [-1]⟩ := by simp [step, hR, he]
        rw [e] at hba ⊢
        rw [he, List.append_nil] at inc
        have gl : ∀ j : Nat, j < n → g (s.p ++ [-2]) j = g s.p j := fun j hj => g_append_left (by omega)
        have gn : g (s.p ++ [-2]) n = -2 := g_append_end lp.symm
        refine ⟨hba, ?_, ?_, ?_, ?_, ?_, ?_, ?_⟩
        · simp only [List.append_nil]
          refine List.pairwise_append.2 ⟨inc, by simp, ?_⟩
          intro a ha x hx; simp at hx; subst hx; exact (hr a ha).2
        · intro j hj
          by_cases hjn : j = n
          · subst hjn; simp [gn]
          · have hj' : j < n := by omega
            rw [gl j hj', m2 j hj', he]
            simp; omega
        · intro j hj
          rcases List.mem_append.1 hj with h | h
          · exact br j h
          · simp at h; rw [show j = n by omega]; exact hR
        · intro j hj; simp at hj
        · intro j hj
          by_cases hjn : j = n
          · subst hjn; simp [gn, hR]
          · have hj' : j < n := by omega
            rw [gl j hj']; exact m1 j hj'
        · intro j hj h0
          by_cases hjn : j = n
          · subst hjn; rw [gn] at h0; omega
          · have hj' : j < n := by omega
            rw [gl j hj'] at h0 ⊢
            obtain ⟨p1, p2, p3⟩ := pos j hj' h0
            refine ⟨by omega, ?_, p3⟩
            rw [gl _ (by omega)]; exact p2
        · intro j hj
          by_cases hjn : j = n
          · subst hjn; rw [gn]; omega
          · have hj' : j < n := by omega
            rw [gl j hj']; exact lo j hj'
      · have e : step s n (b n) = ⟨s.p.set (top s.c).toNat n ++ [top s.c], s.r, s.c.dropLast, s.d ++ [(s.c.dropLast.length : Int)], s.q ++ [top s.c.dropLast]⟩ := by simp [step, hR, he]
        rw [e] at hba ⊢
        have ht := top_mem he
        obtain ⟨t0, t1⟩ := hc _ ht
        obtain ⟨t, htt⟩ := Int.eq_ofNat_of_zero_le t0
        have hdt := dropLast_top he
        have htn : t < n := by omega
        have ht2 : g s.p t = -2 := (m2 t htn).2 (Or.inr (htt ▸ ht))
        have htC : isC (b t) = true := bc t (htt ▸ ht)
        rw [htt] at hdt ⊢
        simp only [Int.toNat_natCast]
        have inc' : (s.r ++ s.c.dropLast ++ [(t : Int)]).Pairwise (· < ·) := by rw [List.append_assoc, hdt]; exact inc
        have hlt := pw_mem inc'
        have gn : g (s.p.set t n ++ [(t : Int)]) n = t := g_append_end (by simp [lp])
        have gl : ∀ j : Nat, j < n → g (s.p.set t n ++ [(t : Int)]) j = if t = j then (n : Int) else g s.p j := by
          intro j hj
          rw [g_append_left (by simp; omega), g_set]
          by_cases h : t = j
          · simp [h]; omega
          · simp [h]
        have hcm : ∀ j : Nat, (j : Int) ∈ s.c ↔ (j : Int) ∈ s.c.dropLast ∨ j = t := by
          intro j
          conv => lhs; rw [← hdt]
          rw [List.mem_append, List.mem_singleton, Int.ofNat_inj]
        refine ⟨by rw [htt] at hba; simpa using hba, ?_, ?_, ?_, ?_, ?_, ?_, ?_⟩
        · exact (List.pairwise_append.1 inc').1
        · intro j hj
          by_cases hjn : j = n
          · subst hjn
            rw [gn]
            constructor
            · intro h; omega
            · intro h
              rcases h with h | h
              · have := hr _ h; omega
              · have := hc _ ((hcm j).2 (Or.inl h)); omega
          · have hj' : j < n := by omega
            rw [gl j hj']
            by_cases hjt : t = j
            · subst hjt
              simp only [if_true]
              constructor
              · intro h; omega
              · intro h
                rcases h with h | h
                · have := hlt t (by simp [h]); omega
                · have := hlt t (by simp [h]); omega
            · rw [if_neg hjt, m2 j hj', hcm j]
              constructor
              · rintro (h | h | h)
                · exact Or.inl h
                · exact Or.inr h
                · omega
              · rintro (h | h)
                · exact Or.inl h
                · exact Or.inr (Or.inl h)
        · exact br
        · intro j hj; exact bc j ((hcm j).2 (Or.inl hj))
        · intro j hj
          by_cases hjn : j = n
          · subst hjn; rw [gn]; simp [hR]
          · have hj' : j < n := by omega
            rw [gl j hj']
            by_cases hjt : t = j
            · subst hjt; simp [htC]
            · rw [if_neg hjt]; exact m1 j hj'
        · intro j hj h0
          by_cases hjn : j = n
          · subst hjn
            rw [gn]
            refine ⟨by omega, ?_, Or.inr ⟨hR, by omega⟩⟩
            rw [Int.toNat_natCast, gl t htn, if_pos rfl]
          · have hj' : j < n := by omega
            rw [gl j hj'] at h0 ⊢
            by_cases hjt : t = j
            · subst hjt
              simp only [if_true]
              refine ⟨by omega, ?_, Or.inl ⟨htC, by omega⟩⟩
              rw [Int.toNat_natCast, gn]
            · rw [if_neg hjt] at h0 ⊢
              obtain ⟨p1, p2, p3⟩ := pos j hj' h0
              refine ⟨by omega, ?_, p3⟩
              rw [gl _ (by omega), if_neg]
              · exact p2
              · intro h; rw [← h, ht2] at p2; omega
        · intro j hj
          by_cases hjn : j = n
          · subst hjn; rw [gn]; omega
          · have hj' : j < n := by omega
            rw [gl j hj']
            split
            · omega
            · exact lo j hj'
    · have hR' : isR (b n) = false := by simpa using hR
      by_cases hC : isC (b n) = true
      · have e : step s n (b n) = ⟨s.p ++ [-2], s.r, s.c ++ [(n : Int)], s.d ++ [(s.c.length : Int) + 1], s.q ++ [top s.c]⟩ := by simp [step, hR, hC]
        rw [e] at hba ⊢
        have gl : ∀ j : Nat, j < n → g (s.p ++ [-2]) j = g s.p j := fun j hj => g_append_left (by omega)
        have gn : g (s.p ++ [-2]) n = -2 := g_append_end lp.symm
        refine ⟨hba, ?_, ?_, ?_, ?_, ?_, ?_, ?_⟩
        · rw [← List.append_assoc]
          refine List.pairwise_append.2 ⟨inc, by simp, ?_⟩
          intro a ha x hx; simp at hx; subst hx
          rcases List.mem_append.1 ha with h | h
          · exact (hr a h).2
          · exact (hc a h).2
        · intro j hj
          by_cases hjn : j = n
          · subst hjn; simp [gn]
          · have hj' : j < n := by omega
            rw [gl j hj', m2 j hj', List.mem_append, List.mem_singleton, Int.ofNat_inj]
            constructor
            · rintro (h | h)
              · exact Or.inl h
              · exact Or.inr (Or.inl h)
            · rintro (h | h | h)
              · exact Or.inl h
              · exact Or.inr h
              · omega
        · exact br
        · intro j hj
          rcases List.mem_append.1 hj with h | h
          · exact bc j h
          · simp at h; rw [show j = n by omega]; exact hC
        · intro j hj
          by_cases hjn : j = n
          · subst hjn; simp [gn, hC]
          · have hj' : j < n := by omega
            rw [gl j hj']; exact m1 j hj'
        · intro j hj h0
          by_cases hjn : j = n
          · subst hjn; rw [gn] at h0; omega
          · have hj' : j < n := by omega
            rw [gl j hj'] at h0 ⊢
            obtain ⟨p1, p2, p3⟩ := pos j hj' h0
            refine ⟨by omega, ?_, p3⟩
            rw [gl _ (by omega)]; exact p2
        · intro j hj
          by_cases hjn : j = n
          · subst hjn; rw [gn]; omega
          · have hj' : j < n := by omega
            rw [gl j hj']; exact lo j hj'
      · have hC' : isC (b n) = false := by simpa using hC
        have e : step s n (b n) = ⟨s.p ++ [-1], s.r, s.c, s.d ++ [(s.c.length : Int)], s.q ++ [top s.c]⟩ := by simp [step, hR, hC]
        rw [e] at hba ⊢
        have gl : ∀ j : Nat, j < n → g (s.p ++ [-1]) j = g s.p j := fun j hj => g_append_left (by omega)
        have gn : g (s.p ++ [-1]) n = -1 := g_append_end lp.symm
        refine ⟨hba, inc, ?_, br, bc, ?_, ?_, ?_⟩
        · intro j hj
          by_cases hjn : j = n
          · subst hjn; rw [gn]
            constructor
            · intro h; omega
            · rintro (h | h)
              · have := hr _ h; omega
              · have := hc _ h; omega
          · have hj' : j < n := by omega
            rw [gl j hj', m2 j hj']
        · intro j hj
          by_cases hjn : j = n
          · subst hjn; simp [gn, hC', hR']
          · have hj' : j < n := by omega
            rw [gl j hj']; exact m1 j hj'
        · intro j hj h0
          by_cases hjn : j = n
          · subst hjn; rw [gn] at h0; omega
          · have hj' : j < n := by omega
            rw [gl j hj'] at h0 ⊢
            obtain ⟨p1, p2, p3⟩ := pos j hj' h0
            refine ⟨by omega, ?_, p3⟩
            rw [gl _ (by omega)]; exact p2
        · intro j hj
          by_cases hjn : j = n
          · subst hjn; rw [gn]; omega
          · have hj' : j < n := by omega
            rw [gl j hj']; exact lo j hj'

/-- What is on the stack after m symbols: by the partners at the end. -/
theorem onstack (b : Int → Int) (m : Nat) : ∀ n, m ≤ n → ∀ k : Nat, k < m → ((k : Int) ∈ (st b m).c ↔ isC (b k) = true ∧ (g (st b n).p k = -2 ∨ (m : Int) ≤ g (st b n).p k)) := by
  intro n hn
  obtain ⟨d, rfl⟩ := Nat.exists_eq_add_of_le hn
  clear hn
  induction d with
  | zero =>
    intro k hk
    have I := inv b m
    constructor
    · intro h; exact ⟨I.bc k h, Or.inl ((I.m2 k hk).2 (Or.inr h))⟩
    · rintro ⟨h1, h2 | h2⟩
      · rcases (I.m2 k hk).1 h2 with h | h
        · have := isR_notC (I.br k h); rw [this] at h1; cases h1
        · exact h
      · have := I.pos k hk (by simp at h2; omega)
        simp at h2; omega
  | succ d ih =>
    intro k hk
    rw [ih k hk]
    have I := inv b (m + d)
    have B := I.ba
    have hst : st b (m + (d + 1)) = step (st b (m + d)) ((m + d : Nat) : Int) (b ((m + d : Nat) : Int)) := rfl
    rw [hst]
    generalize hs : st b (m + d) = s at *
    have lp := B.lp
    unfold step
    split
    · split
      · rw [g_append_left (by omega)]
      · rename_i he
        have ht := top_mem he
        obtain ⟨t0, t1⟩ := B.hc _ ht
        obtain ⟨t, htt⟩ := Int.eq_ofNat_of_zero_le t0
        rw [htt]
        simp only [Int.toNat_natCast]
        rw [g_append_left (by simp; omega), g_set]
        by_cases h : t = k
        · subst h
          have h2 : g s.p t = -2 := (I.m2 t (by omega)).2 (Or.inr (htt ▸ ht))
          rw [if_pos ⟨rfl, by omega⟩, h2]
          simp
          intro _
          right
          omega
        · rw [if_neg (by omega)]
    · split
      · rw [g_append_left (by omega)]
      · rw [g_append_left (by omega)]

/-- Two increasing lists with the same members. -/
theorem inc_ext : ∀ {l m : List Int}, l.Pairwise (· < ·) → m.Pairwise (· < ·) → (∀ x, x ∈ l ↔ x ∈ m) → l = m
  | [], [], _, _, _ => rfl
  | [], y :: m, _, _, h => by have := (h y).2 (by simp); simp at this
  | x :: l, [], _, _, h => by have := (h x).1 (by simp); simp at this
  | x :: l, y :: m, hl, hm, h => by
    obtain ⟨a1, a2⟩ := List.pairwise_cons.1 hl
    obtain ⟨b1, b2⟩ := List.pairwise_cons.1 hm
    have e : x = y := by
      rcases List.mem_cons.1 ((h x).1 (by simp)) with r | r
      · exact r
      · rcases List.mem_cons.1 ((h y).2 (by simp)) with r2 | r2
        · exact r2.symm
        · have := b1 x r; have := a1 y r2; omega
    subst e
    congr 1
    refine inc_ext a2 b2 fun z => ?_
    have hz := h z
    constructor
    · intro hz2
      rcases List.mem_cons.1 (hz.1 (List.mem_cons_of_mem _ hz2)) with r | r
      · have := a1 z hz2; omega
      · exact r
    · intro hz2
      rcases List.mem_cons.1 (hz.2 (List.mem_cons_of_mem _ hz2)) with r | r
      · have := b1 z hz2; omega
      · exact r

/-- The places up to i for which a test says yes, in order. -/
def sel (f : Nat → Bool) : Nat → List Int
  | 0 => []
  | i + 1 => if f i then sel f i ++ [(i : Int)] else sel f i

theorem mem_sel {f : Nat → Bool} : ∀ {i : Nat} {x : Int}, x ∈ sel f i ↔ ∃ j : Nat, j < i ∧ x = j ∧ f j = true
  | 0, x => by simp [sel]
  | i + 1, x => by
    unfold sel
    split
    · rename_i h
      rw [List.mem_append, mem_sel (i := i)]
      constructor
      · rintro (⟨j, h1, h2, h3⟩ | hx)
        · exact ⟨j, by omega, h2, h3⟩
        · simp at hx; exact ⟨i, by omega, hx, h⟩
      · rintro ⟨j, h1, h2, h3⟩
        by_cases hj : j = i
        · subst hj; right; simp [h2]
        · left; exact ⟨j, by omega, h2, h3⟩
    · rename_i h
      rw [mem_sel (i := i)]
      constructor
      · rintro ⟨j, h1, h2, h3⟩; exact ⟨j, by omega, h2, h3⟩
      · rintro ⟨j, h1, h2, h3⟩
        by_cases hj : j = i
        · subst hj; exact absurd h3 h
        · exact ⟨j, by omega, h2, h3⟩

theorem sel_inc {f : Nat → Bool} : ∀ i, (sel f i).Pairwise (· < ·)
  | 0 => by simp [sel]
  | i + 1 => by
    unfold sel
    split
    · refine List.pairwise_append.2 ⟨sel_inc i, by simp, ?_⟩
      intro a ha x hx
      obtain ⟨j, h1, h2, _⟩ := mem_sel.1 ha
      simp at hx; omega
    · exact sel_inc i

theorem sel_len {f : Nat → Bool} : ∀ i, (sel f i).length ≤ i
  | 0 => by simp [sel]
  | i + 1 => by
    have := sel_len (f := f) i
    unfold sel
    split
    · simp; omega
    · omega

theorem pend_all (b : Int → Int) (n : Nat) : sel (fun j => g (st b n).p j == -2) n = (st b n).r ++ (st b n).c := by
  have I := inv b n
  refine inc_ext (sel_inc n) I.inc fun x => ?_
  rw [mem_sel, List.mem_append]
  constructor
  · rintro ⟨j, h1, rfl, h3⟩
    exact (I.m2 j h1).1 (by simpa using h3)
  · intro h
    have hx : 0 ≤ x ∧ x < n := by
      rcases h with h | h
      · exact I.ba.hr x h
      · exact I.ba.hc x h
    obtain ⟨j, rfl⟩ := Int.eq_ofNat_of_zero_le hx.1
    refine ⟨j, by omega, rfl, ?_⟩
    have := (I.m2 j (by omega)).2 h
    simpa using this

end Go.Proofs.Ythhmkkclmopkhaa.Th
namespace Go.Proofs.Ythhmkkclmopkhaa.Br
open Go.RowKit Go.Proofs.Ythhmkkclmopkhaa.P Go.Proofs.YthhmkkclmopkhaaW.PrintWords Go.Proofs.YthhmkkclmopkhaaW.PrintLast Go.Proofs.YthhmkkclmopkhaaW.PrintMore Go.Proofs.Ythhmkkclmopkhaa.Th
set_option linter.unusedVariables false
set_option linter.unusedSimpArgs false
theorem Ev.succ {α : Type} {g : Nat → Option α} {r : α} (h : Ev (fun k => g (k + 1)) r) : Ev g r := by
  obtain ⟨K, hK⟩ := h
  refine ⟨K + 1, fun k hk => ?_⟩
  obtain ⟨m, rfl⟩ : ∃ m, k = m + 1 := ⟨k - 1, by omega⟩
  exact hK m (by omega)
theorem Ev.done {α : Type} {r s : α} (h : r = s) : Ev (fun _ : Nat => some r) s := h ▸ Ev.now r
theorem w64 {x : Int} (h0 : -9223372036854775808 ≤ x) (h1 : x ≤ 9223372036854775807) : wrap64 x = x := by unfold wrap64; omega

/-- The number of a symbol, -1 if it is none. -/
def sym (b : Int) : Int := if b = 40 then 0 else if b = 91 then 1 else if b = 41 then 2 else if b = 93 then 3 else if b = 97 then 4 else if b = 98 then 5 else -1

def allFrom (f : Nat → Bool) : Nat → Nat → Bool
  | 0, _ => true
  | d + 1, i => f i && allFrom f d (i + 1)

/-- Is a text a word. -/
def okw (a : ByteArray) : Bool := allFrom (fun j => decide (0 ≤ sym (bt a j))) a.size 0 && decide ((a.size : Int) ≤ 60)

theorem index_eq {b : Int} (h0 : 0 ≤ b) (h1 : b ≤ 255) : strings_IndexByte.f (⟨#[40, 91, 41, 93, 97, 98]⟩ : ByteArray) b = some (sym b) := by
  obtain ⟨n, rfl⟩ := Int.eq_ofNat_of_zero_le h0
  have hn : n < 256 := by omega
  clear h0 h1
  unfold strings_IndexByte.f
  congr 1
  have key : ∀ n : Fin 256, Lib.indexByte (⟨#[40, 91, 41, 93, 97, 98]⟩ : ByteArray).data.toList ((n.val : Int).toNat.toUInt8) = sym (n.val : Int) := by decide +kernel
  exact key ⟨n, hn⟩

theorem valid_loop (a : ByteArray) (hn : a.size ≤ 1048576) : ∀ d i : Nat, i + d = a.size →
    Ev (fun k => impl_ValidWord.l0 k a a.size i) (allFrom (fun j => decide (0 ≤ sym (bt a j))) d i && decide ((a.size : Int) ≤ 60)) := by
  intro d
  induction d with
  | zero =>
    intro i hi
    refine Ev.succ ?_
    simp only [impl_ValidWord.l0, if_neg (show ¬ (i : Int) < (a.size : Int) by omega), allFrom, Bool.true_and]
    exact Ev.done rfl
  | succ d ih =>
    intro i hi
    refine Ev.succ ?_
    have hb := bt_range a i
    simp only [impl_ValidWord.l0, if_pos (show (i : Int) < (a.size : Int) by omega), if_pos (show (0 : Int) ≤ (i : Int) by omega), allFrom, index_eq hb.1 hb.2, Option.bind_some]
    rw [w64 (by omega) (by omega)]
    by_cases h : sym (bt a i) < 0
    · simp only [if_pos h]
      exact Ev.done (by simp; omega)
    · simp only [if_neg h]
      have := ih (i + 1) (by omega)
      simpa [show 0 ≤ sym (bt a i) by omega] using this

theorem valid_ev (a : ByteArray) (hn : a.size ≤ 1048576) : Ev (fun k => impl_ValidWord.f k a) (okw a) := valid_loop a hn a.size 0 (by omega)

end Go.Proofs.Ythhmkkclmopkhaa.Br
namespace Go.Proofs.Ythhmkkclmopkhaa.Br
open Go.RowKit Go.Proofs.Ythhmkkclmopkhaa.P Go.Proofs.YthhmkkclmopkhaaW.PrintWords Go.Proofs.YthhmkkclmopkhaaW.PrintLast Go.Proofs.YthhmkkclmopkhaaW.PrintMore Go.Proofs.Ythhmkkclmopkhaa.Th
set_option linter.unusedVariables false
set_option linter.unusedSimpArgs false
theorem allFrom_iff {f : Nat → Bool} : ∀ {d i : Nat}, allFrom f d i = true ↔ ∀ j, i ≤ j → j < i + d → f j = true
  | 0, i => by simp [allFrom]; omega
  | d + 1, i => by
    unfold allFrom
    rw [Bool.and_eq_true, allFrom_iff]
    constructor
    · rintro ⟨h1, h2⟩ j hj hj2
      by_cases h : j = i
      · subst h; exact h1
      · exact h2 j (by omega) (by omega)
    · intro h
      exact ⟨h i (by omega) (by omega), fun j h1 h2 => h j (by omega) (by omega)⟩

theorem okw_iff {a : ByteArray} : okw a = true ↔ (∀ j : Nat, j < a.size → 0 ≤ sym (bt a j)) ∧ a.size ≤ 60 := by
  unfold okw
  rw [Bool.and_eq_true, allFrom_iff]
  simp
  intro _
  omega

theorem okw_size {a : ByteArray} (h : okw a = true) : a.size ≤ 60 := (okw_iff.1 h).2
theorem okw_sym {a : ByteArray} (h : okw a = true) {j : Nat} (hj : j < a.size) : 0 ≤ sym (bt a j) := (okw_iff.1 h).1 j hj

theorem bt_lt {a : ByteArray} {j : Nat} (h : j < a.size) : bt a j = (a[j].toNat : Int) := by
  unfold bt; simp [h]
theorem bt_ge {a : ByteArray} {j : Nat} (h : a.size ≤ j) : bt a j = 0 := by
  unfold bt; simp; omega

theorem bt_extract (a : ByteArray) {i e j : Nat} (he : e ≤ a.size) (hj : j < e - i) : bt (a.extract i e) j = bt a ((i + j : Nat) : Int) := by
  rw [bt_lt (by rw [ByteArray.size_extract]; omega), bt_lt (by omega), ByteArray.getElem_extract]

/-- Two texts with the same bytes. -/
theorem ba_ext {a b : ByteArray} (hs : a.size = b.size) (h : ∀ j : Nat, j < a.size → bt a j = bt b j) : a = b := by
  apply ByteArray.ext
  apply Array.ext
  · exact hs
  · intro i h1 h2
    have h1' : i < a.size := h1
    have h2' : i < b.size := h2
    have e := h i h1
    rw [bt_lt h1', bt_lt h2'] at e
    have : a[i].toNat = b[i].toNat := by exact_mod_cast e
    exact UInt8.toNat_inj.1 this

end Go.Proofs.Ythhmkkclmopkhaa.Br
namespace Go.Proofs.Ythhmkkclmopkhaa.Br
open Go.RowKit Go.Proofs.Ythhmkkclmopkhaa.P Go.Proofs.YthhmkkclmopkhaaW.PrintWords Go.Proofs.YthhmkkclmopkhaaW.PrintLast Go.Proofs.YthhmkkclmopkhaaW.PrintMore Go.Proofs.Ythhmkkclmopkhaa.Th
set_option linter.unusedVariables false
set_option linter.unusedSimpArgs false
theorem isReturn_eq (b : Int) : impl_isReturn.f b = some (isR b) := by
  unfold impl_isReturn.f isR
  by_cases h : b = 41 <;> simp [h]
theorem isCall_eq (b : Int) : impl_isCall.f b = some (isC b) := by
  unfold impl_isCall.f isC
  by_cases h : b = 40 <;> simp [h]
theorem sReturn_eq (b : Int) : spec_l01Return.f b = some (isR b) := by
  unfold spec_l01Return.f isR
  by_cases h : b = 41 <;> simp [h]
theorem sCall_eq (b : Int) : spec_l01Call.f b = some (isC b) := by
  unfold spec_l01Call.f isC
  by_cases h : b = 40 <;> simp [h]

theorem rd_last {c : List Int} (h : c ≠ []) : rd c ((c.length : Int) - 1) = top c := by
  unfold rd top
  have : 0 < c.length := List.length_pos_iff.2 h
  rw [List.getLast?_eq_getElem?, List.getD_eq_getElem?_getD, show ((c.length : Int) - 1).toNat = c.length - 1 by omega, List.getElem?_eq_getElem (by omega)]
  rfl

theorem top_nil {c : List Int} (h : c = []) : top c = -1 := by subst h; rfl
theorem take_last {c : List Int} : c.take ((c.length : Int) - 1).toNat = c.dropLast := by
  rw [List.dropLast_eq_take, show ((c.length : Int) - 1).toNat = c.length - 1 by omega]

/-- From the head of j2 on: the parent is told, a call is put on the stack, the rows grow. -/
theorem match_j2 (a : ByteArray) (hn : a.size ≤ 1048576) (i : Nat) (hi : i < a.size) (x6 : Int) (p r c d q : List Int) (R : List Int × List Int × List Int × List Int × List Int)
    (lp : p.length ≤ i) (lr : r.length ≤ i + 1) (lc : c.length ≤ i) (ld : d.length ≤ i + 1) (lq : q.length ≤ i)
    (h : if isC (bt a i) = true then Ev (fun k => impl_match.l0 k a a.size (i + 1 : Nat) (p ++ [-2]) r (c ++ [(i : Int)]) (d ++ [(c.length : Int) + 1]) (q ++ [top c])) R
         else Ev (fun k => impl_match.l0 k a a.size (i + 1 : Nat) (p ++ [x6]) r c (d ++ [(c.length : Int)]) (q ++ [top c])) R) :
    Ev (fun k => impl_match.j2 k a i i x6 a.size i p r c d q) R := by
  have j3 : Ev (fun k => impl_match.j3 k a i i x6 (top c) a.size i p r c d q) R := by
    refine Ev.succ ?_
    simp only [impl_match.j3, if_pos (show (0 : Int) ≤ (i : Int) by omega), if_pos (show (i : Int) < (a.size : Int) by omega), isCall_eq, Option.bind_some]
    have j4 : ∀ (x : Int) (c2 : List Int), c2.length ≤ i + 1 → Ev (fun k => impl_match.l0 k a a.size (i + 1 : Nat) (p ++ [x]) r c2 (d ++ [(c2.length : Int)]) (q ++ [top c])) R → Ev (fun k => impl_match.j4 k a x (top c) a.size i p r c2 d q) R := by
      intro x c2 l2 h2
      refine Ev.succ ?_
      simp only [impl_match.j4, Option.bind_some, impl_size_int64.f, List.length_cons, List.length_nil]
      rw [w64 (by omega) (by omega)]
      simp only [if_pos (show p.length + (0 + 1) < 17592186044416 by omega), if_pos (show q.length + (0 + 1) < 17592186044416 by omega), if_pos (show d.length + (0 + 1) < 17592186044416 by omega)]
      exact h2
    by_cases hC : isC (bt a i) = true
    · simp only [hC, if_true, List.length_cons, List.length_nil, if_pos (show c.length + (0 + 1) < 17592186044416 by omega)] at h ⊢
      refine j4 (-2) (c ++ [(i : Int)]) (by simp; omega) ?_
      simpa using h
    · simp only [if_neg hC] at h ⊢
      exact j4 x6 c (by omega) h
  refine Ev.succ ?_
  simp only [impl_match.j2]
  by_cases hc : c = []
  · simp only [if_neg (show ¬ (c.length : Int) > 0 by simp [hc])]
    rw [top_nil hc] at j3
    exact j3
  · have : 0 < c.length := List.length_pos_iff.2 hc
    rw [w64 (by omega) (by omega)]
    simp only [if_pos (show (c.length : Int) > 0 by omega), if_pos (show 0 ≤ (c.length : Int) - 1 by omega), if_pos (show (c.length : Int) - 1 < (c.length : Int) by omega), rd_last hc]
    exact j3

theorem match_loop (a : ByteArray) (hn : a.size ≤ 1048576) : ∀ d i : Nat, i + d = a.size →
    Ev (fun k => impl_match.l0 k a a.size i (st (bt a) i).p (st (bt a) i).r (st (bt a) i).c (st (bt a) i).d (st (bt a) i).q)
      ((st (bt a) a.size).p, (st (bt a) a.size).r, (st (bt a) a.size).c, (st (bt a) a.size).d, (st (bt a) a.size).q) := by
  intro d
  induction d with
  | zero =>
    intro i hi
    obtain rfl : i = a.size := by omega
    refine Ev.succ ?_
    simp only [impl_match.l0, if_neg (show ¬ (a.size : Int) < (a.size : Int) by omega)]
    exact Ev.now _
  | succ d ih =>
    intro i hi
    have B := basic (bt a) i
    have hnext := ih (i + 1) (by omega)
    have hst : st (bt a) (i + 1) = Th.step (st (bt a) i) i (bt a i) := rfl
    rw [hst] at hnext
    obtain ⟨lp, lq, ld, lr, lc, hc, hr⟩ := B
    generalize st (bt a) i = s at *
    refine Ev.succ ?_
    simp only [impl_match.l0, if_pos (show (i : Int) < (a.size : Int) by omega), if_pos (show (0 : Int) ≤ (i : Int) by omega), isReturn_eq, Option.bind_some]
    by_cases hR : isR (bt a i) = true
    · have hC := isR_notC hR
      simp only [hR, if_true]
      refine Ev.succ ?_
      simp only [impl_match.j1]
      by_cases he : s.c = []
      · simp only [he, List.length_nil, Int.ofNat_zero, Int.natCast_zero, BEq.rfl, if_true, Option.bind_some, List.length_cons]
        simp only [if_pos (show s.r.length + (0 + 1) < 17592186044416 by omega)]
        refine match_j2 a hn i (by omega) (-2) _ _ _ _ _ _ (by omega) (by simp; omega) (by simp) (by omega) (by omega) ?_
        rw [if_neg (by simp [hC])]
        simp only [Th.step, hR, if_true, he] at hnext
        exact hnext
      · have hl : 0 < s.c.length := List.length_pos_iff.2 he
        have ht := hc _ (top_mem he)
        have hz : ((s.c.length : Int) == 0) = false := by simp; omega
        simp only [hz, Bool.false_eq_true, if_false]
        rw [w64 (by omega) (by omega)]
        simp only [if_pos (show (0 : Int) ≤ (i : Int) by omega), if_pos (show (i : Int) < (a.size : Int) by omega), isReturn_eq, Option.bind_some, hR, if_true,
          if_pos (show 0 ≤ (s.c.length : Int) - 1 by omega), if_pos (show (s.c.length : Int) - 1 < (s.c.length : Int) by omega), rd_last he, if_pos ht.1, if_pos (show top s.c < (s.p.length : Int) by omega), if_pos (show (s.c.length : Int) - 1 ≤ (s.c.length : Int) by omega), take_last]
        refine match_j2 a hn i (by omega) _ _ _ _ _ _ _ (by simp; omega) (by omega) (by simp; omega) (by omega) (by omega) ?_
        rw [if_neg (by simp [hC])]
        simp only [Th.step, hR, if_true, if_neg he] at hnext
        exact hnext
    · have hR' : isR (bt a i) = false := by simpa using hR
      simp only [hR', Bool.false_eq_true, if_false]
      refine Ev.succ ?_
      simp only [impl_match.j1, Bool.false_eq_true, if_false, if_pos (show (0 : Int) ≤ (i : Int) by omega), if_pos (show (i : Int) < (a.size : Int) by omega), isReturn_eq, Option.bind_some, hR']
      refine match_j2 a hn i (by omega) (-1) _ _ _ _ _ _ (by omega) (by omega) (by omega) (by omega) (by omega) ?_
      by_cases hC : isC (bt a i) = true
      · rw [if_pos hC]
        simp only [Th.step, hR', Bool.false_eq_true, if_false, hC, if_true] at hnext
        exact hnext
      · rw [if_neg hC]
        simp only [Th.step, hR', Bool.false_eq_true, if_false, hC] at hnext
        exact hnext

theorem match_ev (a : ByteArray) (hn : a.size ≤ 1048576) : Ev (fun k => impl_match.f k a)
    ((st (bt a) a.size).p, (st (bt a) a.size).r, (st (bt a) a.size).c, (st (bt a) a.size).d, (st (bt a) a.size).q) := match_loop a hn a.size 0 (by omega)

end Go.Proofs.Ythhmkkclmopkhaa.Br
namespace Go.Proofs.Ythhmkkclmopkhaa.Br
open Go.RowKit Go.Proofs.Ythhmkkclmopkhaa.P Go.Proofs.YthhmkkclmopkhaaW.PrintWords Go.Proofs.YthhmkkclmopkhaaW.PrintLast Go.Proofs.YthhmkkclmopkhaaW.PrintMore Go.Proofs.Ythhmkkclmopkhaa.Th
set_option linter.unusedVariables false
set_option linter.unusedSimpArgs false
theorem g_rd (l : List Int) (i : Nat) : rd l i = g l i := by unfold rd g; simp

end Go.Proofs.Ythhmkkclmopkhaa.Br
namespace Go.Proofs.Ythhmkkclmopkhaa.Br
open Go.RowKit Go.Proofs.Ythhmkkclmopkhaa.P Go.Proofs.YthhmkkclmopkhaaW.PrintWords Go.Proofs.YthhmkkclmopkhaaW.PrintLast Go.Proofs.YthhmkkclmopkhaaW.PrintMore Go.Proofs.Ythhmkkclmopkhaa.Th
set_option linter.unusedVariables false
set_option linter.unusedSimpArgs false
theorem sn_size (l : List Int) : (strOfNums l).size = l.length := by
  simp [strOfNums, ByteArray.size]
theorem sn_bt {l : List Int} (h : ∀ x ∈ l, 0 ≤ x ∧ x ≤ 255) (j : Nat) : bt (strOfNums l) j = g l j := by
  by_cases hj : j < l.length
  · rw [bt_lt (by rw [sn_size]; exact hj)]
    have := h (l[j]) (List.getElem_mem _)
    simp [strOfNums, ByteArray.getElem_eq_getElem_data, g, List.getD_eq_getElem?_getD, hj]
    omega
  · rw [bt_ge (by rw [sn_size]; omega)]
    simp [g, List.getD_eq_getElem?_getD, hj]


theorem sn_snoc (l : List Int) (a : ByteArray) {i : Nat} (hi : i < a.size) : strOfNums l ++ a.extract i (i + 1) = strOfNums (l ++ [bt a i]) := by
  have h : a.extract i (i + 1) = strOfNums [bt a i] := by
    refine ba_ext (by rw [ByteArray.size_extract, sn_size]; simp; omega) ?_
    intro j hj
    rw [ByteArray.size_extract] at hj
    have := bt_range a i
    rw [bt_extract a (by omega) (by omega), sn_bt (by simpa using this), show j = 0 by omega]
    rfl
  rw [h]
  apply ByteArray.ext
  simp [strOfNums]

/-- The bytes at places. -/
def at_ (a : ByteArray) (l : List Int) : List Int := l.map fun x => bt a x

theorem iCore_loop (a : ByteArray) (hn : a.size ≤ 1048576) (y : List Int) (hy : y.length ≤ 2097152) (hr : ∀ x ∈ y, 0 ≤ x ∧ x < a.size) : ∀ d i : Nat, i + d = y.length →
    Ev (fun k => impl_CoreOf.l0 k a (at_ a (y.take i)) y y.length i) (strOfNums (at_ a y), 0) := by
  intro d
  induction d with
  | zero =>
    intro i hi
    obtain rfl : i = y.length := by omega
    refine Ev.succ ?_
    simp only [impl_CoreOf.l0, if_neg (show ¬ (y.length : Int) < (y.length : Int) by omega), List.take_length]
    exact Ev.now _
  | succ d ih =>
    intro i hi
    have hnext := ih (i + 1) (by omega)
    have hm : rd y i ∈ y := by
      unfold rd; rw [Int.toNat_natCast, List.getD_eq_getElem?_getD, List.getElem?_eq_getElem (by omega)]; exact List.getElem_mem _
    have b0 := hr _ hm
    have b1 : (i : Int) < (y.length : Int) := by omega
    have b2 : (0 : Int) ≤ (i : Int) := by omega
    have b3 : (at_ a (y.take i)).length < 140737488355328 := by simp [at_]; omega
    have f3 : wrap64 ((i : Int) + 1) = (i : Int) + 1 := w64 (by omega) (by omega)
    refine Ev.succ ?_
    simp only [impl_CoreOf.l0, if_pos b1, if_pos b2, if_pos b0.1, if_pos b0.2, if_pos b3, f3]
    have : at_ a (y.take i) ++ [bt a (rd y i)] = at_ a (y.take (i + 1)) := by
      rw [List.take_succ_eq_append_getElem (by omega : i < y.length), at_, at_, List.map_append, rd, Int.toNat_natCast, List.getD_eq_getElem?_getD, List.getElem?_eq_getElem (show i < y.length by omega)]
      rfl
    rw [this]
    exact hnext

theorem iCore_ev (a : ByteArray) (hn : a.size ≤ 1048576) : Ev (fun k => impl_CoreOf.f k a) (if okw a = true then (strOfNums (at_ a ((st (bt a) a.size).r ++ (st (bt a) a.size).c)), 0) else ((⟨#[]⟩ : ByteArray), 1)) := by
  unfold impl_CoreOf.f
  refine Ev.bind (valid_ev a hn) ?_
  by_cases h : okw a = true
  · have B := basic (bt a) a.size
    have hl : (st (bt a) a.size).r.length + (st (bt a) a.size).c.length < 17592186044416 := by have := B.lr; have := B.lc; omega
    have hl2 : ((st (bt a) a.size).r ++ (st (bt a) a.size).c).length ≤ 2097152 := by have := B.lr; have := B.lc; simp; omega
    have hmem : ∀ x ∈ (st (bt a) a.size).r ++ (st (bt a) a.size).c, 0 ≤ x ∧ x < (a.size : Int) := by
      intro x hx
      rcases List.mem_append.1 hx with h | h
      · exact B.hr x h
      · exact B.hc x h
    simp only [h, if_true]
    refine Ev.bind (match_ev a hn) ?_
    simp only [if_pos hl, Option.bind_some]
    exact iCore_loop a hn _ hl2 hmem _ 0 (Nat.zero_add _)
  · simp only [h, if_false]
    exact Ev.now _

/-- The greatest of some numbers and a first one. -/
def most (x : Int) (l : List Int) : Int := l.foldl mx x

end Go.Proofs.Ythhmkkclmopkhaa.Br
namespace Go.Proofs.Ythhmkkclmopkhaa.Br
open Go.RowKit Go.Proofs.Ythhmkkclmopkhaa.P Go.Proofs.YthhmkkclmopkhaaW.PrintWords Go.Proofs.YthhmkkclmopkhaaW.PrintLast Go.Proofs.YthhmkkclmopkhaaW.PrintMore Go.Proofs.Ythhmkkclmopkhaa.Th
set_option linter.unusedVariables false
set_option linter.unusedSimpArgs false
theorem down {P : Nat → Prop} (n : Nat) (h0 : P n) (h1 : ∀ i, i < n → P (i + 1) → P i) : ∀ i, i ≤ n → P i := by
  have key : ∀ d i, i + d = n → P i := by
    intro d
    induction d with
    | zero => intro i hi; obtain rfl : i = n := by omega
              exact h0
    | succ d ih => intro i hi; exact h1 i (by omega) (ih (i + 1) (by omega))
  intro i hi
  exact key (n - i) i (by omega)
theorem up1 (i : Nat) (h : i < 9223372036854775807) : wrap64 ((i : Int) + 1) = ((i + 1 : Nat) : Int) := by
  rw [w64 (by omega) (by omega)]; rfl
theorem i0 (i : Nat) : 0 ≤ (i : Int) := by omega
end Go.Proofs.Ythhmkkclmopkhaa.Br
namespace Go.Proofs.Ythhmkkclmopkhaa.Br
open Go.RowKit Go.Proofs.Ythhmkkclmopkhaa.P Go.Proofs.YthhmkkclmopkhaaW.PrintWords Go.Proofs.YthhmkkclmopkhaaW.PrintLast Go.Proofs.YthhmkkclmopkhaaW.PrintMore Go.Proofs.Ythhmkkclmopkhaa.Th
set_option linter.unusedVariables false
set_option linter.unusedSimpArgs false
/-- The symbol of a turned word. -/
def oth (c : Int) : Int := if c = 40 then 41 else if c = 41 then 40 else if c = 91 then 93 else if c = 93 then 91 else c
theorem sym_cases {c : Int} (h : 0 ≤ sym c) : c = 40 ∨ c = 91 ∨ c = 41 ∨ c = 93 ∨ c = 97 ∨ c = 98 := by
  unfold sym at h
  by_cases h0 : c = 40
  · exact .inl h0
  rw [if_neg h0] at h
  by_cases h0 : c = 91
  · exact .inr (.inl h0)
  rw [if_neg h0] at h
  by_cases h0 : c = 41
  · exact .inr (.inr (.inl h0))
  rw [if_neg h0] at h
  by_cases h0 : c = 93
  · exact .inr (.inr (.inr (.inl h0)))
  rw [if_neg h0] at h
  by_cases h0 : c = 97
  · exact .inr (.inr (.inr (.inr (.inl h0))))
  rw [if_neg h0] at h
  by_cases h0 : c = 98
  · exact .inr (.inr (.inr (.inr (.inr h0))))
  rw [if_neg h0] at h
  omega
theorem turnSym_oth {c : Int} (h : 0 ≤ sym c) : turnSym c = oth c := by
  rcases sym_cases h with rfl | rfl | rfl | rfl | rfl | rfl <;> decide +kernel
theorem sym_oth {c : Int} (h : 0 ≤ sym c) : 0 ≤ sym (oth c) := by
  rcases sym_cases h with rfl | rfl | rfl | rfl | rfl | rfl <;> decide
theorem oth_oth {c : Int} (h : 0 ≤ sym c) : oth (oth c) = c := by
  rcases sym_cases h with rfl | rfl | rfl | rfl | rfl | rfl <;> decide
theorem oth_byte {c : Int} (h : 0 ≤ sym c) : 0 ≤ oth c ∧ oth c ≤ 255 := by
  rcases sym_cases h with rfl | rfl | rfl | rfl | rfl | rfl <;> decide
theorem oth_C {c : Int} (h : 0 ≤ sym c) : isC (oth c) = isR c ∧ isR (oth c) = isC c := by
  rcases sym_cases h with rfl | rfl | rfl | rfl | rfl | rfl <;> decide
/-- The turned word's symbols. -/
def twl (a : ByteArray) : List Int := (List.range a.size).map fun j => oth (bt a ((a.size - 1 - j : Nat) : Int))
theorem twl_len (a : ByteArray) : (twl a).length = a.size := by simp [twl]
theorem twl_g (a : ByteArray) {j : Nat} (h : j < a.size) : g (twl a) j = oth (bt a ((a.size - 1 - j : Nat) : Int)) := by
  unfold g twl
  rw [List.getD_eq_getElem?_getD, List.getElem?_map, List.getElem?_range h]
  rfl
theorem turned_eq {a : ByteArray} (h : okw a = true) : turned a = twl a := by
  unfold turned twl
  apply List.ext_getElem
  · simp [bytesOf_length]
  · intro j h1 h2
    have hj : j < a.size := by simpa [bytesOf_length] using h1
    have hl := bytesOf_length a
    simp only [List.getElem_map, List.getElem_range, List.getElem_reverse]
    have hb : (bytesOf a)[(bytesOf a).length - 1 - j]'(by omega) = bt a ((a.size - 1 - j : Nat) : Int) := by
      rw [← rd_bytesOf]
      unfold rd
      rw [Int.toNat_natCast, List.getD_eq_getElem?_getD, List.getElem?_eq_getElem (by omega)]
      simp [hl]
    rw [hb]
    exact turnSym_oth (okw_sym h (by omega))
def tt (a : ByteArray) : ByteArray := strOfNums (twl a)
theorem iTurn_ev (a : ByteArray) (hn : a.size ≤ 1048576) : Ev (fun k => impl_TurnWord.f k a) (if okw a = true then (tt a, 0) else ((⟨#[]⟩ : ByteArray), 1)) := by
  unfold impl_TurnWord.f
  refine Ev.bind (valid_ev a hn) ?_
  by_cases h : okw a = true
  · simp only [h, if_true, if_pos hn, turned_eq h]
    exact Ev.now _
  · simp only [h, if_false]
    exact Ev.now _
/-! ### what a turned word is -/
theorem tt_size (a : ByteArray) : (tt a).size = a.size := by rw [tt, sn_size, twl_len]
theorem twl_byte {a : ByteArray} (h : okw a = true) : ∀ x ∈ twl a, 0 ≤ x ∧ x ≤ 255 := by
  intro x hx
  unfold twl at hx
  obtain ⟨j, hj, rfl⟩ := List.mem_map.1 hx
  have := List.mem_range.1 hj
  exact oth_byte (okw_sym h (by omega))
theorem tt_bt {a : ByteArray} (h : okw a = true) {j : Nat} (hj : j < a.size) : bt (tt a) j = oth (bt a ((a.size - 1 - j : Nat) : Int)) := by
  rw [tt, sn_bt (twl_byte h), twl_g a hj]
theorem tt_ok {a : ByteArray} (h : okw a = true) : okw (tt a) = true := by
  rw [okw_iff, tt_size]
  exact ⟨fun j hj => by rw [tt_bt h hj]; exact sym_oth (okw_sym h (by omega)), okw_size h⟩
theorem tt_tt {a : ByteArray} (h : okw a = true) : tt (tt a) = a := by
  refine ba_ext (by rw [tt_size, tt_size]) ?_
  intro j hj
  rw [tt_size, tt_size] at hj
  rw [tt_bt (tt_ok h) (by rw [tt_size]; exact hj), tt_size, tt_bt h (by omega), show a.size - 1 - (a.size - 1 - j) = j by omega]
  exact oth_oth (okw_sym h hj)
end Go.Proofs.Ythhmkkclmopkhaa.Br
namespace Go.Proofs.Ythhmkkclmopkhaa.Br
open Go.RowKit Go.Proofs.Ythhmkkclmopkhaa.P Go.Proofs.YthhmkkclmopkhaaW.PrintWords Go.Proofs.YthhmkkclmopkhaaW.PrintLast Go.Proofs.YthhmkkclmopkhaaW.PrintMore Go.Proofs.Ythhmkkclmopkhaa.Th
set_option linter.unusedVariables false
set_option linter.unusedSimpArgs false
theorem iPartners_ev (a : ByteArray) (hn : a.size ≤ 1048576) : Ev (fun k => impl_PartnersOf.f k a) (if okw a = true then ((st (bt a) a.size).p, 0) else ([], 1)) := by
  unfold impl_PartnersOf.f
  refine Ev.bind (valid_ev a hn) ?_
  by_cases h : okw a = true
  · simp only [h, if_true]
    exact Ev.bind (match_ev a hn) (Ev.now _)
  · simp only [h, if_false]
    exact Ev.now _
/-- Is a word matched. -/
def mtc (a : ByteArray) : Bool := ((((st (bt a) a.size).r.length : Int) + ((st (bt a) a.size).c.length : Int)) == 0)
theorem iMatched_ev (a : ByteArray) (hn : a.size ≤ 1048576) : Ev (fun k => impl_isMatched.f k a) (mtc a) := by
  unfold impl_isMatched.f
  refine Ev.bind (match_ev a hn) ?_
  have B := basic (bt a) a.size
  have h1 := B.lr
  have h2 := B.lc
  simp only
  rw [w64 (by omega) (by omega)]
  exact Ev.now _
theorem iIsMatched_ev (a : ByteArray) (hn : a.size ≤ 1048576) : Ev (fun k => impl_IsMatched.f k a) (if okw a = true then (mtc a, 0) else (false, 1)) := by
  unfold impl_IsMatched.f
  refine Ev.bind (valid_ev a hn) ?_
  by_cases h : okw a = true
  · simp only [h, if_true]
    exact Ev.bind (iMatched_ev a hn) (Ev.now _)
  · simp only [h, if_false]
    exact Ev.now _

theorem within_eq (a lo hi : Int) : impl_within.f a lo hi = some (decide (lo ≤ a ∧ a ≤ hi)) := by
  unfold impl_within.f
  by_cases h : a ≥ lo
  · rw [if_pos h]; congr 1; simp; omega
  · rw [if_neg h]; congr 1; simp; omega

end Go.Proofs.Ythhmkkclmopkhaa.Br
namespace Go.Proofs.Ythhmkkclmopkhaa.Br
open Go.RowKit Go.Proofs.Ythhmkkclmopkhaa.P Go.Proofs.YthhmkkclmopkhaaW.PrintWords Go.Proofs.YthhmkkclmopkhaaW.PrintLast Go.Proofs.YthhmkkclmopkhaaW.PrintMore Go.Proofs.Ythhmkkclmopkhaa.Th
set_option linter.unusedVariables false
set_option linter.unusedSimpArgs false
/-- The return of the call at a place. -/
def clo (a : ByteArray) (x : Int) : Int × Int :=
  if okw a = true then (if 0 ≤ x ∧ x ≤ (a.size : Int) - 1 then (if isC (bt a x) = true ∧ 0 ≤ rd (st (bt a) a.size).p x then (rd (st (bt a) a.size).p x, 0) else (0, 4)) else (0, 2)) else (0, 1)

theorem clo_zero {a : ByteArray} {x : Int} (h : (clo a x).2 = 0) : 0 ≤ x ∧ x < (clo a x).1 ∧ (clo a x).1 < a.size ∧ a.size ≤ 60 ∧ okw a = true := by
  unfold clo at h ⊢
  split at h <;> rename_i h1
  · split at h <;> rename_i h2
    · split at h <;> rename_i h3
      · simp only [if_pos h1, if_pos h2, if_pos h3]
        obtain ⟨j, rfl⟩ := Int.eq_ofNat_of_zero_le h2.1
        rw [g_rd] at h3 ⊢
        have := (inv (bt a) a.size).pos j (by omega) h3.2
        refine ⟨h2.1, ?_, this.1, okw_size h1, h1⟩
        rcases this.2.2 with h4 | h4
        · exact h4.2
        · rw [isR_notC h4.1] at h3; simp at h3
      · simp at h
    · simp at h
  · simp at h

theorem iClosed_ev (a : ByteArray) (x : Int) (hn : a.size ≤ 1048576) : Ev (fun k => impl_bodyAt.f k a x) (clo a x) := by
  unfold impl_bodyAt.f clo
  refine Ev.bind (valid_ev a hn) ?_
  have B := basic (bt a) a.size
  have lp := B.lp
  have f1 : wrap64 ((a.size : Int) - 1) = (a.size : Int) - 1 := w64 (by omega) (by omega)
  by_cases h : okw a = true
  · simp only [h, if_true, f1, within_eq, Option.bind_some]
    by_cases h2 : 0 ≤ x ∧ x ≤ (a.size : Int) - 1
    · rw [if_pos h2, decide_eq_true h2]
      simp only [if_true]
      refine Ev.bind (match_ev a hn) ?_
      simp only [lp]
      have b1 : x < (a.size : Int) := by omega
      simp only [if_pos h2.1, if_pos b1, isCall_eq, Option.bind_some]
      by_cases h3 : isC (bt a x) = true
      · simp only [h3, if_true, true_and]
        by_cases h4 : rd (st (bt a) a.size).p x < 0
        · rw [if_pos h4, if_neg (by omega)]; exact Ev.now _
        · rw [if_neg h4, if_pos (by omega)]; exact Ev.now _
      · simp only [h3, if_false, false_and]; exact Ev.now _
    · rw [if_neg h2, decide_eq_false h2]
      exact Ev.now _
  · simp only [h, if_false]
    exact Ev.now _

/-- What BodyOf and CutMatched tell. -/
def bodyR (a : ByteArray) (x : Int) : ByteArray × Int := if (clo a x).2 = 0 then (a.extract (x + 1).toNat (clo a x).1.toNat, 0) else ((⟨#[]⟩ : ByteArray), (clo a x).2)
theorem iBody_ev (a : ByteArray) (x : Int) (hn : a.size ≤ 1048576) (hx : (Lit.int .i64 x).wf = true) : Ev (fun k => impl_BodyOf.f k a x) (bodyR a x) := by
  unfold impl_BodyOf.f bodyR
  refine Ev.bind (iClosed_ev a x hn) ?_
  by_cases h : (clo a x).2 = 0
  · have z := clo_zero h
    have b1 : 0 ≤ x + 1 := by omega
    have b2 : x + 1 ≤ (clo a x).1 := by omega
    have b3 : (clo a x).1 ≤ (a.size : Int) := by omega
    have f1 : wrap64 (x + 1) = x + 1 := w64 (by omega) (by omega)
    simp only [if_pos h, f1, if_pos b1, if_pos b2, if_pos b3]
    exact Ev.now _
  · simp only [if_neg h]; exact Ev.now _
theorem okw_extract {a : ByteArray} (ha : okw a = true) {i e : Nat} (he : e ≤ a.size) : okw (a.extract i e) = true := by
  have hs := okw_size ha
  rw [okw_iff, ByteArray.size_extract]
  refine ⟨fun j hj => ?_, by omega⟩
  rw [bt_extract a he (by omega)]
  exact okw_sym ha (by omega)

end Go.Proofs.Ythhmkkclmopkhaa.Br
namespace Go.Proofs.Ythhmkkclmopkhaa.Br
open Go.RowKit Go.Proofs.Ythhmkkclmopkhaa.P Go.Proofs.YthhmkkclmopkhaaW.PrintWords Go.Proofs.YthhmkkclmopkhaaW.PrintLast Go.Proofs.YthhmkkclmopkhaaW.PrintMore Go.Proofs.Ythhmkkclmopkhaa.Th
set_option linter.unusedVariables false
set_option linter.unusedSimpArgs false
theorem u64_wrap (n : Int) : IntKind.u64.wrap n = n % 18446744073709551616 := by simp [IntKind.wrap, IntKind.bits, IntKind.signed]
theorem u64_range (n : Int) : 0 ≤ IntKind.u64.wrap n ∧ IntKind.u64.wrap n < 18446744073709551616 := by rw [u64_wrap]; omega
theorem and255 {x : Int} (h0 : 0 ≤ x) (h1 : x < 18446744073709551616) : Go.bits .and .u64 x 255 = x % 256 :=
  bits_mask .u64 64 (by decide) (fun n a b => by rw [u64_wrap]; omega) 8 (by decide) x h0 h1
theorem pick_bits (n : Int) : 0 ≤ wrap64 (Go.bits .and .u64 (IntKind.u64.wrap n / 1099511627776) 255) ∧ wrap64 (Go.bits .and .u64 (IntKind.u64.wrap n / 1099511627776) 255) ≤ 255 := by
  have h := u64_range n
  generalize IntKind.u64.wrap n = m at *
  have h2 : 0 ≤ m / 1099511627776 ∧ m / 1099511627776 < 18446744073709551616 := by omega
  rw [and255 h2.1 h2.2]
  unfold wrap64
  omega

/-- The bytes of a source. -/
def Bytes (s : List Int) : Prop := ∀ x ∈ s, 0 ≤ x ∧ x ≤ 255
theorem bytes_of_wf {s : List Int} (h : ∀ x ∈ s, (Lit.int .u8 x).wf = true) : Bytes s := by
  intro x hx
  have := h x hx
  simp [Lit.wf, IntKind.min, IntKind.max, IntKind.bits, IntKind.signed] at this
  omega
theorem bytes_rd {s : List Int} (h : Bytes s) (i : Int) : 0 ≤ rd s i ∧ rd s i ≤ 255 := by
  unfold rd
  rw [List.getD_eq_getElem?_getD]
  by_cases hi : i.toNat < s.length
  · rw [List.getElem?_eq_getElem hi]; exact h _ (List.getElem_mem _)
  · rw [List.getElem?_eq_none (by omega)]; simp

theorem next_ok {s : List Int} (hs : Bytes s) (at_ sd : Int) (h0 : 0 ≤ at_) (h1 : at_ ≤ 1099511627776) : ∃ v sd', spec_l00Src_next.f s at_ sd = some (v, at_ + 1, sd') ∧ 0 ≤ v ∧ v ≤ 255 := by
  have hb := bytes_rd hs at_
  have f1 : wrap64 (at_ + 1) = at_ + 1 := w64 (by omega) (by omega)
  have f2 : wrap64 (rd s at_) = rd s at_ := w64 (by omega) (by omega)
  unfold spec_l00Src_next.f
  rw [f1]
  split
  · first | rw [if_pos h0] | skip
    split
    · exact ⟨_, _, rfl, by rw [f2]; exact hb.1, by rw [f2]; exact hb.2⟩
    · exact ⟨_, _, rfl, (pick_bits _).1, (pick_bits _).2⟩
  · split
    · exact ⟨_, _, rfl, by omega, by omega⟩
    · exact ⟨_, _, rfl, (pick_bits _).1, (pick_bits _).2⟩

/-- A number below n, at most 200. -/
theorem pick_ok {s : List Int} (hs : Bytes s) (at_ sd n : Int) (h0 : 0 ≤ at_) (h1 : at_ ≤ 1099511627776) (hn : 1 ≤ n) (hn2 : n ≤ 200) :
    ∃ v at2 sd', spec_l00Src_pick.f s at_ sd n = some (v, at2, sd') ∧ 0 ≤ v ∧ v < n ∧ at_ ≤ at2 ∧ at2 ≤ at_ + 1 := by
  unfold spec_l00Src_pick.f
  by_cases h : n ≤ 1
  · rw [if_pos h]; exact ⟨0, at_, sd, rfl, by omega, by omega, by omega, by omega⟩
  · obtain ⟨v, sd', e, v0, v1⟩ := next_ok hs at_ sd h0 h1
    rw [if_neg h, e]
    simp only [Option.bind_some]
    rw [if_neg (by omega), if_neg (by omega)]
    refine ⟨_, _, _, rfl, ?_, ?_, by omega, by omega⟩
    · rw [Int.tmod_eq_emod_of_nonneg v0]; exact Int.emod_nonneg _ (by omega)
    · rw [Int.tmod_eq_emod_of_nonneg v0]; exact Int.emod_lt_of_pos _ (by omega)

theorem one_ok {s : List Int} (hs : Bytes s) (at_ sd n : Int) (h0 : 0 ≤ at_) (h1 : at_ ≤ 1099511627776) (hn : 1 ≤ n) (hn2 : n ≤ 200) :
    ∃ v at2 sd', spec_l00Src_one.f s at_ sd n = some (v, at2, sd') ∧ at_ ≤ at2 ∧ at2 ≤ at_ + 1 := by
  obtain ⟨v, at2, sd', e, _, _, a, b⟩ := pick_ok hs at_ sd n h0 h1 hn hn2
  unfold spec_l00Src_one.f
  rw [e]
  exact ⟨_, _, _, rfl, a, b⟩
theorem among_ok {s : List Int} (hs : Bytes s) (at_ sd : Int) (l : List Int) (h0 : 0 ≤ at_) (h1 : at_ ≤ 1099511627776) (hn : 1 ≤ l.length) (hn2 : l.length ≤ 200) :
    ∃ v at2 sd', spec_l00Src_among.f s at_ sd l = some (v, at2, sd') ∧ v ∈ l ∧ at_ ≤ at2 ∧ at2 ≤ at_ + 1 := by
  obtain ⟨v, at2, sd', e, v0, v1, a, b⟩ := pick_ok hs at_ sd l.length h0 h1 (by omega) (by omega)
  unfold spec_l00Src_among.f
  rw [e]
  simp only [Option.bind_some, if_pos v0, if_pos v1]
  refine ⟨_, _, _, rfl, ?_, a, b⟩
  obtain ⟨j, rfl⟩ := Int.eq_ofNat_of_zero_le v0
  unfold rd
  rw [Int.toNat_natCast, List.getD_eq_getElem?_getD, List.getElem?_eq_getElem (by omega)]
  exact List.getElem_mem _

/-- Symbols, as numbers. -/
def Syms (l : List Int) : Prop := ∀ x ∈ l, x = 40 ∨ x = 91 ∨ x = 41 ∨ x = 93 ∨ x = 97 ∨ x = 98
theorem syms_snoc {l : List Int} {x : Int} (h : Syms l) (hx : x = 40 ∨ x = 91 ∨ x = 41 ∨ x = 93 ∨ x = 97 ∨ x = 98) : Syms (l ++ [x]) := by
  intro y hy
  rcases List.mem_append.1 hy with hy | hy
  · exact h y hy
  · simp at hy; subst hy; exact hx
theorem okw_syms {l : List Int} (h : Syms l) (hl : l.length ≤ 60) : okw (strOfNums l) = true := by
  rw [okw_iff, sn_size]
  refine ⟨fun j hj => ?_, hl⟩
  rw [sn_bt (fun x hx => by rcases h x hx with r | r | r | r | r | r <;> omega)]
  have : g l j ∈ l := by unfold g; rw [List.getD_eq_getElem?_getD, List.getElem?_eq_getElem hj]; exact List.getElem_mem _
  unfold sym
  rcases h _ this with r | r | r | r | r | r <;> rw [r] <;> decide

/-- A drawn word: at most m symbols. -/
def Drawn (m : Nat) (r : ByteArray × Int × Int) : Prop := ∃ l : List Int, r.1 = strOfNums l ∧ Syms l ∧ l.length ≤ m

theorem drawn_l1 {s : List Int} (hs : Bytes s) (m : Nat) (hm : m ≤ 60) : ∀ d : Nat, ∀ (x5 : List Int) (x6 : Int) (x7 : Bool) (at_ sd : Int), x5.length + d = m → Syms x5 → 0 ≤ at_ → at_ + 2 * d ≤ 1000000 → -1000 ≤ x6 → x6 ≤ 1000 →
    ∃ r, Ev (fun k => spec_l01Drawn.l1 k m x5 x6 x7 s at_ sd) r ∧ Drawn m r := by
  intro d
  induction d with
  | zero =>
    intro x5 x6 x7 at_ sd hl hy h0 h1 _ _
    refine ⟨(strOfNums x5, at_, sd), Ev.succ ?_, x5, rfl, hy, by omega⟩
    have b1 : ¬ (x5.length : Int) < (m : Int) := by omega
    simp only [spec_l01Drawn.l1, if_neg b1]
    split
    · split <;> exact Ev.now _
    · exact Ev.now _
  | succ d ih =>
    intro x5 x6 x7 at_ sd hl hy h0 h1 h2 h3
    have b1 : (x5.length : Int) < (m : Int) := by omega
    by_cases c7 : x7 = true
    · by_cases c6 : x6 > 0
      · obtain ⟨v, at2, sd2, e, a1, a2⟩ := one_ok hs at_ sd 8 h0 (by omega) (by omega) (by omega)
        by_cases cv : v = true
        · refine ⟨(strOfNums x5, at2, sd2), Ev.succ ?_, x5, rfl, hy, by omega⟩
          simp only [spec_l01Drawn.l1, if_pos c7, if_pos c6, if_pos b1, e, Option.bind_some, if_pos cv]
          exact Ev.now _
        · obtain ⟨v2, at3, sd3, e2, v0, v1, a3, a4⟩ := pick_ok hs at2 sd2 2 (by omega) (by omega) (by omega) (by omega)
          have hx : bt (⟨#[41, 93]⟩ : ByteArray) v2 = 41 ∨ bt (⟨#[41, 93]⟩ : ByteArray) v2 = 93 := by
            have : v2 = 0 ∨ v2 = 1 := by omega
            rcases this with rfl | rfl
            · left; decide
            · right; decide
          have b4 : x5.length < 140737488355328 := by omega
          obtain ⟨r, er, dr⟩ := ih (x5 ++ [bt (⟨#[41, 93]⟩ : ByteArray) v2]) (x6 - 1) x7 at3 sd3 (by simp; omega) (syms_snoc hy (by omega)) (by omega) (by omega) (by omega) (by omega)
          have f1 : wrap64 (x6 - 1) = x6 - 1 := w64 (by omega) (by omega)
          refine ⟨r, Ev.succ ?_, dr⟩
          simp only [spec_l01Drawn.l1, if_pos c7, if_pos c6, if_pos b1, e, Option.bind_some, if_neg cv, e2, if_pos v0, if_pos v1, if_pos b4, f1]
          exact er
      · refine ⟨(strOfNums x5, at_, sd), Ev.succ ?_, x5, rfl, hy, by omega⟩
        simp only [spec_l01Drawn.l1, if_pos c7, if_neg c6]
        exact Ev.now _
    · refine ⟨(strOfNums x5, at_, sd), Ev.succ ?_, x5, rfl, hy, by omega⟩
      simp only [spec_l01Drawn.l1, if_neg c7]
      exact Ev.now _

theorem drawn_l0 {s : List Int} (hs : Bytes s) (m : Nat) (hm : m ≤ 60) : ∀ d : Nat, ∀ (x5 : List Int) (x6 : Int) (x7 : Bool) (at_ sd : Int), x5.length + d ≤ m → Syms x5 → 0 ≤ at_ → at_ + d ≤ 10000 → -200 + d ≤ x6 → x6 + d ≤ 200 →
    ∃ r, Ev (fun k => spec_l01Drawn.l0 k m x5 x6 x7 d s at_ sd) r ∧ Drawn m r := by
  intro d
  induction d with
  | zero =>
    intro x5 x6 x7 at_ sd hl hy h0 h1 h2 h3
    obtain ⟨r, er, dr⟩ := drawn_l1 hs m hm (m - x5.length) x5 x6 x7 at_ sd (by omega) hy h0 (by omega) (by omega) (by omega)
    refine ⟨r, Ev.succ ?_, dr⟩
    simp only [spec_l01Drawn.l0, if_neg (show ¬ ((0 : Nat) : Int) > 0 by decide)]
    exact er
  | succ d ih =>
    intro x5 x6 x7 at_ sd hl hy h0 h1 h2 h3
    obtain ⟨v, at2, sd2, e, hv, a1, a2⟩ := among_ok hs at_ sd [0, 1, 2, 2, 3, 4, 5] h0 (by omega) (by decide) (by decide)
    have hv' : 0 ≤ v ∧ v < 6 := by simp at hv; omega
    have hx : bt (⟨#[40, 91, 41, 93, 97, 98]⟩ : ByteArray) v = 40 ∨ bt (⟨#[40, 91, 41, 93, 97, 98]⟩ : ByteArray) v = 91 ∨ bt (⟨#[40, 91, 41, 93, 97, 98]⟩ : ByteArray) v = 41 ∨ bt (⟨#[40, 91, 41, 93, 97, 98]⟩ : ByteArray) v = 93 ∨ bt (⟨#[40, 91, 41, 93, 97, 98]⟩ : ByteArray) v = 97 ∨ bt (⟨#[40, 91, 41, 93, 97, 98]⟩ : ByteArray) v = 98 := by
      have : v = 0 ∨ v = 1 ∨ v = 2 ∨ v = 3 ∨ v = 4 ∨ v = 5 := by omega
      rcases this with rfl | rfl | rfl | rfl | rfl | rfl
      · left; decide
      · right; left; decide
      · right; right; left; decide
      · right; right; right; left; decide
      · right; right; right; right; left; decide
      · right; right; right; right; right; decide
    generalize hb : bt (⟨#[40, 91, 41, 93, 97, 98]⟩ : ByteArray) v = b at *
    have b4 : x5.length < 140737488355328 := by omega
    have step2 : ∀ c : Int, (c = 40 ∨ c = 91 ∨ c = 41 ∨ c = 93 ∨ c = 97 ∨ c = 98) → ∃ r, Ev (fun k => spec_l01Drawn.j2 k m x5 x6 x7 ((d + 1 : Nat) : Int) c s at2 sd2) r ∧ Drawn m r := by
      intro c hc
      have go : ∀ y : Int, -200 + d ≤ y → y + d ≤ 200 → ∃ r, Ev (fun k => spec_l01Drawn.l0 k m (x5 ++ [c]) y x7 d s at2 sd2) r ∧ Drawn m r :=
        fun y p q => ih (x5 ++ [c]) y x7 at2 sd2 (by simp; omega) (syms_snoc hy hc) (by omega) (by omega) p q
      obtain ⟨r1, e1, d1⟩ := go x6 (by omega) (by omega)
      obtain ⟨r2, e2, d2⟩ := go (x6 + 1) (by omega) (by omega)
      obtain ⟨r3, e3, d3⟩ := go (x6 - 1) (by omega) (by omega)
      have f1 : wrap64 (x6 + 1) = x6 + 1 := w64 (by omega) (by omega)
      have f2 : wrap64 (x6 - 1) = x6 - 1 := w64 (by omega) (by omega)
      have f3 : wrap64 (((d + 1 : Nat) : Int) - 1) = (d : Int) := by rw [w64 (by omega) (by omega)]; push_cast; omega
      have f4 : wrap64 (x6 + 1 - 1) = x6 := by rw [w64 (by omega) (by omega)]; omega
      have key : ∃ r, Ev (fun k => spec_l01Drawn.j2 (k + 1) m x5 x6 x7 ((d + 1 : Nat) : Int) c s at2 sd2) r ∧ Drawn m r := by
        simp only [spec_l01Drawn.j2, sCall_eq, sReturn_eq, Option.bind_some, if_pos b4, f1, f2, f3, f4]
        split
        · split
          · split
            · exact ⟨r1, e1, d1⟩
            · exact ⟨r2, e2, d2⟩
          · exact ⟨r2, e2, d2⟩
        · split
          · split
            · exact ⟨r3, e3, d3⟩
            · exact ⟨r1, e1, d1⟩
          · exact ⟨r1, e1, d1⟩
      obtain ⟨r, er, dr⟩ := key
      exact ⟨r, Ev.succ er, dr⟩
    have step1 : ∀ z : Bool, ∃ r, Ev (fun k => spec_l01Drawn.j1 k m x5 x6 x7 ((d + 1 : Nat) : Int) b z s at2 sd2) r ∧ Drawn m r := by
      intro z
      cases z with
      | true =>
        obtain ⟨r, er, dr⟩ := step2 40 (Or.inl rfl)
        exact ⟨r, Ev.succ (by simp only [spec_l01Drawn.j1, if_true]; exact er), dr⟩
      | false =>
        obtain ⟨r, er, dr⟩ := step2 b hx
        exact ⟨r, Ev.succ (by simp only [spec_l01Drawn.j1, Bool.false_eq_true, if_false]; exact er), dr⟩
    have key : ∃ r, Ev (fun k => spec_l01Drawn.l0 (k + 1) m x5 x6 x7 ((d + 1 : Nat) : Int) s at_ sd) r ∧ Drawn m r := by
      have b5 : ((d + 1 : Nat) : Int) > 0 := by omega
      simp only [spec_l01Drawn.l0, if_pos b5, e, Option.bind_some, if_pos hv'.1, if_pos hv'.2, sReturn_eq, hb]
      split
      · split
        · exact step1 _
        · exact step1 _
      · exact step1 _
    obtain ⟨r, er, dr⟩ := key
    exact ⟨r, Ev.succ er, dr⟩

/-- A drawn word is a word of at most m symbols. -/
theorem a2word (l : List Int) (hs : Bytes l) (m : Nat) (hm : m ≤ 60) : ∃ w, Ev (fun k => spec_A2Word.f k l m) w ∧ okw w = true ∧ w.size ≤ m := by
  obtain ⟨v, at2, sd2, e, a1, a2⟩ := one_ok hs 0 0 3 (by omega) (by omega) (by omega) (by omega)
  obtain ⟨v2, at3, sd3, e2, v0, v1, a3, a4⟩ := pick_ok hs at2 sd2 ((m : Int) + 1) (by omega) (by omega) (by omega) (by omega)
  obtain ⟨j, rfl⟩ := Int.eq_ofNat_of_zero_le v0
  obtain ⟨r, er, lst, q1, q2, q3⟩ := drawn_l0 hs m hm j [] 0 (!v) at3 sd3 (by simp; omega) (fun x hx => by simp at hx) (by omega) (by omega) (by omega) (by omega)
  have f1 : wrap64 ((m : Int) + 1) = (m : Int) + 1 := w64 (by omega) (by omega)
  refine ⟨r.1, ?_, by rw [q1]; exact okw_syms q2 (by omega), by rw [q1, sn_size]; exact q3⟩
  unfold spec_A2Word.f spec_l00From.f
  simp only [Option.bind_some]
  refine Ev.bind (a := r) ?_ (Ev.now _)
  unfold spec_l01Drawn.f
  simp only [e, Option.bind_some, f1, e2]
  exact er

end Go.Proofs.Ythhmkkclmopkhaa.Br
namespace Go.Proofs.Ythhmkkclmopkhaa.Th

theorem step_c (s : St) (i b : Int) : (step s i b).c = if isR b = true then s.c.dropLast else if isC b = true then s.c ++ [i] else s.c := by
  unfold step
  split
  · split
    · rename_i h; rw [h]; rfl
    · rfl
  · split <;> rfl
theorem step_r (s : St) (i b : Int) : (step s i b).r = if isR b = true ∧ s.c = [] then s.r ++ [i] else s.r := by
  unfold step
  by_cases h : isR b = true
  · by_cases h2 : s.c = [] <;> simp [h, h2]
  · by_cases h3 : isC b = true <;> simp [h, h3]
theorem st_succ (b : Int → Int) (n : Nat) : st b (n + 1) = step (st b n) n (b n) := rfl
theorem st_congr {b b' : Int → Int} : ∀ n, (∀ j : Nat, j < n → b j = b' j) → st b n = st b' n
  | 0, _ => rfl
  | n + 1, h => by rw [st_succ, st_succ, st_congr n (fun j hj => h j (by omega)), h n (by omega)]
theorem r_mono (b : Int → Int) (n : Nat) : ∀ m, ∃ l, (st b (n + m)).r = (st b n).r ++ l
  | 0 => ⟨[], by simp⟩
  | m + 1 => by
    obtain ⟨l, hl⟩ := r_mono b n m
    rw [← Nat.add_assoc, st_succ, step_r, hl]
    split
    · exact ⟨l ++ [((n + m : Nat) : Int)], by simp⟩
    · exact ⟨l, rfl⟩
end Go.Proofs.Ythhmkkclmopkhaa.Th
namespace Go.Proofs.Ythhmkkclmopkhaa.Th

theorem dropLast_app {α : Type} (l m : List α) (h : m ≠ []) : (l ++ m).dropLast = l ++ m.dropLast := by
  rw [List.dropLast_append_of_ne_nil h]
theorem p_old (s : St) (i b : Int) (j : Nat) (hj : j < s.p.length) : g (step s i b).p j = if isR b = true ∧ s.c ≠ [] ∧ (top s.c).toNat = j then i else g s.p j := by
  unfold step
  by_cases hR : isR b = true
  · rw [if_pos hR]
    by_cases hc : s.c = []
    · rw [if_pos hc, if_neg (fun h => h.2.1 hc)]
      exact g_append_left hj
    · rw [if_neg hc]
      show g (s.p.set (top s.c).toNat i ++ [top s.c]) j = _
      rw [g_append_left (by simp; exact hj), g_set]
      by_cases ht : (top s.c).toNat = j
      · rw [if_pos ⟨ht, by omega⟩, if_pos ⟨hR, hc, ht⟩]
      · rw [if_neg (fun h => ht h.1), if_neg (fun h => ht h.2.2)]
  · have e : (if isR b = true ∧ s.c ≠ [] ∧ (top s.c).toNat = j then i else g s.p j) = g s.p j := if_neg (fun h => hR h.1)
    rw [e, if_neg hR]
    split
    · exact g_append_left hj
    · exact g_append_left hj
theorem p_new (s : St) (i b : Int) : g (step s i b).p s.p.length = if isR b = true then (if s.c = [] then -2 else top s.c) else if isC b = true then -2 else -1 := by
  unfold step
  by_cases hR : isR b = true
  · rw [if_pos hR, if_pos hR]
    by_cases hc : s.c = []
    · rw [if_pos hc, if_pos hc]; exact g_append_end rfl
    · rw [if_neg hc, if_neg hc]
      exact g_append_end (by simp)
  · rw [if_neg hR, if_neg hR]
    split
    · exact g_append_end rfl
    · exact g_append_end rfl
/-- Where a place, or a partner, comes to lie when n symbols are put in at i. -/
def put (i n : Nat) (v : Int) : Int := if v ≥ i then v + n else v
/-- What is left of a partner that is known stays. -/
theorem p_keep (b : Int → Int) (j : Nat) (n : Nat) (hj : j < n) (v : Int) (hv : v ≠ -2) (h : g (st b n).p j = v) : ∀ m, g (st b (n + m)).p j = v
  | 0 => h
  | m + 1 => by
    have ih := p_keep b j n hj v hv h m
    have lp := (basic b (n + m)).lp
    have I := inv b (n + m)
    rw [← Nat.add_assoc, st_succ, p_old _ _ _ j (by omega), ih]
    refine if_neg (fun hh => ?_)
    have ht := top_mem hh.2.1
    obtain ⟨t0, t1⟩ := (basic b (n + m)).hc _ ht
    have hjt : top (st b (n + m)).c = (j : Int) := by omega
    rw [hjt] at ht
    have := (I.m2 j (by omega)).2 (Or.inr ht)
    rw [ih] at this
    exact hv this
end Go.Proofs.Ythhmkkclmopkhaa.Th
namespace Go.Proofs.Ythhmkkclmopkhaa.Th
set_option linter.unusedVariables false
set_option linter.unusedSimpArgs false
structure Mt (b : Int → Int) (n : Nat) (p : Nat → Int) : Prop where
  inn : ∀ j : Nat, j < n → (p j = -1 ↔ isC (b j) = false ∧ isR (b j) = false)
  lo : ∀ j : Nat, j < n → -2 ≤ p j
  pos : ∀ j : Nat, j < n → 0 ≤ p j → p j < n ∧ p (p j).toNat = j ∧ ((isC (b j) = true ∧ (j : Int) < p j) ∨ (isR (b j) = true ∧ p j < j))
  nest : ∀ i k : Nat, i < n → (i : Int) < p i → i < k → (k : Int) < p i → p k ≠ -2 ∧ (0 ≤ p k → (i : Int) < p k ∧ p k < p i)
  pend : ∀ j k : Nat, j < k → k < n → isC (b j) = true → p j = -2 → isR (b k) = true → p k ≠ -2
theorem c_inc (b : Int → Int) (m : Nat) : (st b m).c.Pairwise (· < ·) := (List.pairwise_append.1 (inv b m).inc).2.1
theorem top_max {l : List Int} (hl : l.Pairwise (· < ·)) (hne : l ≠ []) : ∀ x ∈ l, x ≤ top l := by
  intro x hx
  have e := dropLast_top hne
  rw [← e] at hx hl
  rcases List.mem_append.1 hx with h | h
  · have := pw_mem hl x h; omega
  · rw [List.mem_singleton.1 h]; omega
theorem mem_drop {l : List Int} (hl : l.Pairwise (· < ·)) (hne : l ≠ []) (x : Int) : x ∈ l.dropLast ↔ x ∈ l ∧ x ≠ top l := by
  have e := dropLast_top hne
  constructor
  · intro h
    refine ⟨List.dropLast_subset _ h, ?_⟩
    rw [← e] at hl
    have := pw_mem hl x h
    omega
  · rintro ⟨h, hx⟩
    rw [← e] at h
    rcases List.mem_append.1 h with h | h
    · exact h
    · exact absurd (List.mem_singleton.1 h) hx
theorem isC_notR {b : Int} (h : isC b = true) : isR b = false := by
  cases hR : isR b with
  | false => rfl
  | true => rw [isR_notC hR] at h; cases h
/-- There is one matching: what the reading makes. -/
theorem mt_unique {b : Int → Int} {n : Nat} {p : Nat → Int} (M : Mt b n p) : ∀ m, m ≤ n →
    (∀ x : Int, x ∈ (st b m).c ↔ ∃ j : Nat, x = j ∧ j < m ∧ isC (b j) = true ∧ (p j = -2 ∨ (m : Int) ≤ p j)) ∧
    (∀ j : Nat, j < m → g (st b m).p j = if p j < m then p j else -2)
  | 0, _ => ⟨fun x => by simp [st], fun j hj => by omega⟩
  | m + 1, hm => by
    obtain ⟨hc, hp⟩ := mt_unique M m (by omega)
    have B := basic b m
    have hinc := c_inc b m
    have hlo := M.lo m (by omega)
    have hold := fun j (hj : j < m) => p_old (st b m) m (b m) j (by rw [B.lp]; exact hj)
    have hnew := p_new (st b m) m (b m)
    rw [B.lp] at hnew
    by_cases hR : isR (b m) = true
    · have hC : isC (b m) = false := isR_notC hR
      by_cases he : (st b m).c = []
      · have hpm : p m = -2 := by
          by_cases h0 : 0 ≤ p m
          · obtain ⟨h1, h2, h3⟩ := M.pos m (by omega) h0
            rcases h3 with h3 | h3
            · rw [hC] at h3; exact absurd h3.1 (by decide)
            · obtain ⟨t, ht⟩ := Int.eq_ofNat_of_zero_le h0
              rw [ht, Int.toNat_natCast] at h2
              obtain ⟨_, _, h5⟩ := M.pos t (by omega) (by omega)
              have : (t : Int) ∈ (st b m).c := (hc t).2 ⟨t, rfl, by omega, by rcases h5 with h5 | h5; exact h5.1; omega, .inr (by omega)⟩
              rw [he] at this
              cases this
          · have h1 := (M.inn m (by omega))
            have : p m ≠ -1 := fun h => by have := (h1.1 h).2; rw [hR] at this; cases this
            omega
        refine ⟨fun x => ?_, fun j hj => ?_⟩
        · rw [st_succ, step_c, if_pos hR, he]
          constructor
          · intro h; cases h
          · rintro ⟨j, rfl, hj, h1, h2⟩
            have hjm : j ≠ m := fun h => by rw [h, hC] at h1; cases h1
            exfalso
            have : (j : Int) ∈ (st b m).c := (hc j).2 ⟨j, rfl, by omega, h1, by rcases h2 with h2 | h2; exact .inl h2; exact .inr (by omega)⟩
            rw [he] at this
            cases this
        · rw [st_succ]
          by_cases hjm : j = m
          · subst hjm
            rw [hnew, if_pos hR, if_pos he, hpm]
            rfl
          · rw [hold j (by omega), if_neg (by rintro ⟨_, h, _⟩; exact h he), hp j (by omega)]
            by_cases h1 : p j < m
            · rw [if_pos h1, if_pos (by omega)]
            · rw [if_neg h1]
              by_cases h2 : p j < ((m + 1 : Nat) : Int)
              · exfalso
                have e : p j = m := by omega
                obtain ⟨_, h4, _⟩ := M.pos j (by omega) (by omega)
                rw [e, Int.toNat_natCast, hpm] at h4
                omega
              · rw [if_neg h2]
      · -- the top is the partner
        have htm := top_mem he
        obtain ⟨T, hT, hTm, hTC, hTp⟩ := (hc _).1 htm
        have hmax := top_max hinc he
        have hpm : p m = T := by
          have hne2 : p m ≠ -2 := by
            intro h2
            rcases hTp with h | h
            · exact M.pend T m hTm (by omega) hTC h hR h2
            · by_cases e : p T = m
              · obtain ⟨_, h4, _⟩ := M.pos T (by omega) (by omega)
                rw [e, Int.toNat_natCast, h2] at h4
                omega
              · exact (M.nest T m (by omega) (by omega) hTm (by omega)).1 h2
          have hne1 : p m ≠ -1 := fun h => by have := ((M.inn m (by omega)).1 h).2; rw [hR] at this; cases this
          obtain ⟨h1, h2, h3⟩ := M.pos m (by omega) (by omega)
          obtain ⟨t, ht⟩ := Int.eq_ofNat_of_zero_le (show 0 ≤ p m by omega)
          have htm2 : t < m := by
            rcases h3 with h3 | h3
            · rw [hC] at h3; exact absurd h3.1 (by decide)
            · omega
          rw [ht, Int.toNat_natCast] at h2
          obtain ⟨_, _, h5⟩ := M.pos t (by omega) (by omega)
          have htC : isC (b t) = true := by
            rcases h5 with h5 | h5
            · exact h5.1
            · omega
          have hmem : (t : Int) ∈ (st b m).c := (hc t).2 ⟨t, rfl, htm2, htC, .inr (by omega)⟩
          have hle := hmax _ hmem
          rw [hT] at hle
          by_cases e : t = T
          · rw [ht, e]
          · exfalso
            obtain ⟨h6, h7⟩ := M.nest t T (by omega) (by omega) (by omega) (by omega)
            rcases hTp with h | h
            · exact h6 h
            · have := (h7 (by omega)).2
              omega
        have hpT : p T = m := by
          obtain ⟨_, h2, _⟩ := M.pos m (by omega) (by omega)
          rw [hpm, Int.toNat_natCast] at h2
          exact h2
        refine ⟨fun x => ?_, fun j hj => ?_⟩
        · rw [st_succ, step_c, if_pos hR, mem_drop hinc he, hc]
          constructor
          · rintro ⟨⟨j, rfl, hj, h1, h2⟩, h3⟩
            refine ⟨j, rfl, by omega, h1, ?_⟩
            rcases h2 with h2 | h2
            · exact .inl h2
            · by_cases e : p j = m
              · exfalso
                obtain ⟨_, h4, _⟩ := M.pos j (by omega) (by omega)
                rw [e, Int.toNat_natCast, hpm] at h4
                exact h3 (by rw [hT]; omega)
              · exact .inr (by omega)
          · rintro ⟨j, rfl, hj, h1, h2⟩
            have hjm : j ≠ m := fun h => by rw [h, hC] at h1; cases h1
            refine ⟨⟨j, rfl, by omega, h1, by rcases h2 with h2 | h2; exact .inl h2; exact .inr (by omega)⟩, ?_⟩
            intro h
            rw [hT] at h
            have : j = T := by omega
            subst this
            rw [hpT] at h2
            omega
        · rw [st_succ]
          by_cases hjm : j = m
          · subst hjm
            rw [hnew, if_pos hR, if_neg he, hT, hpm, if_pos (by omega)]
          · by_cases hjT : j = T
            · subst hjT
              rw [hold j (by omega), if_pos ⟨hR, he, by rw [hT, Int.toNat_natCast]⟩, hpT, if_pos (by omega)]
            · rw [hold j (by omega), if_neg (by rintro ⟨_, _, h⟩; rw [hT, Int.toNat_natCast] at h; exact hjT h.symm), hp j (by omega)]
              by_cases h1 : p j < m
              · rw [if_pos h1, if_pos (by omega)]
              · rw [if_neg h1]
                by_cases h2 : p j < ((m + 1 : Nat) : Int)
                · exfalso
                  have e : p j = m := by omega
                  obtain ⟨_, h4, _⟩ := M.pos j (by omega) (by omega)
                  rw [e, Int.toNat_natCast, hpm] at h4
                  omega
                · rw [if_neg h2]
    · have hRf : isR (b m) = false := by simpa using hR
      have hnot : ∀ j : Nat, j < m → p j ≠ m := by
        intro j hj e
        obtain ⟨_, h4, _⟩ := M.pos j (by omega) (by omega)
        rw [e, Int.toNat_natCast] at h4
        obtain ⟨_, _, h5⟩ := M.pos m (by omega) (by omega)
        rcases h5 with h5 | h5
        · omega
        · exact hR h5.1
      have hold' : ∀ j : Nat, j < m → g (st b (m + 1)).p j = if p j < ((m + 1 : Nat) : Int) then p j else -2 := by
        intro j hj
        rw [st_succ, hold j hj, if_neg (by rintro ⟨h, _⟩; exact hR h), hp j hj]
        have := hnot j hj
        by_cases h1 : p j < m
        · rw [if_pos h1, if_pos (by omega)]
        · rw [if_neg h1, if_neg (by omega)]
      by_cases hC : isC (b m) = true
      · have hpm : p m = -2 ∨ (m : Int) < p m := by
          by_cases h0 : 0 ≤ p m
          · obtain ⟨_, _, h3⟩ := M.pos m (by omega) h0
            rcases h3 with h3 | h3
            · exact .inr h3.2
            · exact absurd h3.1 hR
          · have hne1 : p m ≠ -1 := fun h => by have := ((M.inn m (by omega)).1 h).1; rw [hC] at this; cases this
            exact .inl (by omega)
        refine ⟨fun x => ?_, fun j hj => ?_⟩
        · rw [st_succ, step_c, if_neg hR, if_pos hC, List.mem_append, hc]
          constructor
          · rintro (⟨j, rfl, hj, h1, h2⟩ | h)
            · have := hnot j hj
              exact ⟨j, rfl, by omega, h1, by rcases h2 with h2 | h2; exact .inl h2; exact .inr (by omega)⟩
            · exact ⟨m, List.mem_singleton.1 h, by omega, hC, by rcases hpm with h2 | h2; exact .inl h2; exact .inr (by omega)⟩
          · rintro ⟨j, rfl, hj, h1, h2⟩
            by_cases hjm : j = m
            · subst hjm; exact .inr (by simp)
            · exact .inl ⟨j, rfl, by omega, h1, by rcases h2 with h2 | h2; exact .inl h2; exact .inr (by omega)⟩
        · by_cases hjm : j = m
          · subst hjm
            rw [st_succ, hnew, if_neg hR, if_pos hC]
            rcases hpm with h2 | h2
            · rw [h2]; rfl
            · rw [if_neg (by omega)]
          · exact hold' j (by omega)
      · have hCf : isC (b m) = false := by simpa using hC
        have hpm : p m = -1 := (M.inn m (by omega)).2 ⟨hCf, hRf⟩
        refine ⟨fun x => ?_, fun j hj => ?_⟩
        · rw [st_succ, step_c, if_neg hR, if_neg hC, hc]
          constructor
          · rintro ⟨j, rfl, hj, h1, h2⟩
            have := hnot j hj
            exact ⟨j, rfl, by omega, h1, by rcases h2 with h2 | h2; exact .inl h2; exact .inr (by omega)⟩
          · rintro ⟨j, rfl, hj, h1, h2⟩
            have hjm : j ≠ m := fun h => by rw [h, hCf] at h1; cases h1
            exact ⟨j, rfl, by omega, h1, by rcases h2 with h2 | h2; exact .inl h2; exact .inr (by omega)⟩
        · by_cases hjm : j = m
          · subst hjm
            rw [st_succ, hnew, if_neg hR, if_neg hC, hpm, if_pos (by omega)]
          · exact hold' j (by omega)
theorem mt_eq {b : Int → Int} {n : Nat} {p : Nat → Int} (M : Mt b n p) (j : Nat) (hj : j < n) : g (st b n).p j = p j := by
  rw [(mt_unique M n (Nat.le_refl _)).2 j hj]
  by_cases h : p j < n
  · rw [if_pos h]
  · by_cases h0 : 0 ≤ p j
    · exact absurd (M.pos j hj h0).1 h
    · omega
/-- What a return matches is on top of the stack when it comes. -/
theorem top_at {b : Int → Int} {n e : Nat} (he : e < n) (hR : isR (b e) = true) (h : 0 ≤ g (st b n).p e) : (st b e).c ≠ [] ∧ top (st b e).c = g (st b n).p e := by
  have B := basic b e
  have hnew := p_new (st b e) e (b e)
  rw [B.lp, if_pos hR] at hnew
  have hs : st b (e + 1) = step (st b e) e (b e) := rfl
  rw [← hs] at hnew
  by_cases hc : (st b e).c = []
  · rw [if_pos hc] at hnew
    exfalso
    have h1 := ((inv b (e + 1)).m2 e (by omega)).1 hnew
    have hr : (e : Int) ∈ (st b (e + 1)).r := by
      rcases h1 with h1 | h1
      · exact h1
      · have := (inv b (e + 1)).bc e h1
        rw [isR_notC hR] at this
        cases this
    obtain ⟨l, hl⟩ := r_mono b (e + 1) (n - (e + 1))
    rw [show e + 1 + (n - (e + 1)) = n by omega] at hl
    have h2 : (e : Int) ∈ (st b n).r := by rw [hl]; exact List.mem_append_left _ hr
    have := ((inv b n).m2 e he).2 (.inl h2)
    omega
  · rw [if_neg hc] at hnew
    refine ⟨hc, ?_⟩
    have hge := (B.hc _ (top_mem hc)).1
    have := p_keep b e (e + 1) (by omega) (top (st b e).c) (by omega) hnew (n - (e + 1))
    rw [show e + 1 + (n - (e + 1)) = n by omega] at this
    exact this.symm
/-- The reading's matching is one. -/
theorem st_mt (b : Int → Int) (n : Nat) : Mt b n (fun j => g (st b n).p j) := by
  have I := inv b n
  have key : ∀ i k : Nat, i < n → (i : Int) < g (st b n).p i → i < k → (k : Int) < g (st b n).p i → g (st b n).p k ≠ -2 ∧ (0 ≤ g (st b n).p k → (i : Int) < g (st b n).p k ∧ g (st b n).p k < g (st b n).p i) := by
    intro i k hi hpi hik hkp
    obtain ⟨e, he⟩ := Int.eq_ofNat_of_zero_le (show 0 ≤ g (st b n).p i by omega)
    obtain ⟨h1, h2, h3⟩ := I.pos i hi (by omega)
    rw [he] at hpi hkp h1 h2 h3 ⊢
    rw [Int.toNat_natCast] at h2
    have hen : e < n := by omega
    have hCi : isC (b i) = true := by
      rcases h3 with h3 | h3
      · exact h3.1
      · omega
    obtain ⟨_, _, h6⟩ := I.pos e hen (by omega)
    have hRe : isR (b e) = true := by
      rcases h6 with h6 | h6
      · omega
      · exact h6.1
    obtain ⟨hne, htop⟩ := top_at hen hRe (by omega)
    rw [h2] at htop
    have hmaxe := top_max (c_inc b e) hne
    rw [htop] at hmaxe
    have onk : ∀ m, m ≤ n → k < m → ((k : Int) ∈ (st b m).c ↔ isC (b k) = true ∧ (g (st b n).p k = -2 ∨ (m : Int) ≤ g (st b n).p k)) := fun m hm hk => onstack b m n hm k hk
    have hik2 : (i : Int) ∈ (st b (k + 1)).c := (onstack b (k + 1) n (by omega) i (by omega)).2 ⟨hCi, .inr (by omega)⟩
    constructor
    · intro h
      rcases (I.m2 k (by omega)).1 h with hr | hc
      · have hRk := I.br k hr
        have hpk : g (st b (k + 1)).p k = -2 := by
          by_cases hx : g (st b (k + 1)).p k = -2
          · exact hx
          · have := p_keep b k (k + 1) (by omega) _ hx rfl (n - (k + 1))
            rw [show k + 1 + (n - (k + 1)) = n by omega, h] at this
            exact absurd this.symm hx
        have hk1 : (k : Int) ∈ (st b (k + 1)).r := by
          rcases ((inv b (k + 1)).m2 k (by omega)).1 hpk with h7 | h7
          · exact h7
          · have := (inv b (k + 1)).bc k h7
            rw [isR_notC hRk] at this
            cases this
        have := (List.pairwise_append.1 (inv b (k + 1)).inc).2.2 _ hk1 _ hik2
        omega
      · have hCk := I.bc k hc
        have := hmaxe _ ((onk e (by omega) (by omega)).2 ⟨hCk, .inl h⟩)
        omega
    · intro h
      obtain ⟨h7, h8, h9⟩ := I.pos k (by omega) h
      obtain ⟨t, ht⟩ := Int.eq_ofNat_of_zero_le h
      rw [ht] at h7 h8 h9 ⊢
      rw [Int.toNat_natCast] at h8
      rcases h9 with h9 | h9
      · refine ⟨by omega, ?_⟩
        by_cases hx : (t : Int) < e
        · exact hx
        · exfalso
          have : (e : Int) ≤ g (st b n).p k := by omega
          have := hmaxe _ ((onk e (by omega) (by omega)).2 ⟨h9.1, .inr this⟩)
          omega
      · refine ⟨?_, by omega⟩
        by_cases hx : (i : Int) < t
        · exact hx
        · exfalso
          obtain ⟨hne2, htop2⟩ := top_at (n := n) (show k < n by omega) h9.1 h
          have hmem : (i : Int) ∈ (st b k).c := (onstack b k n (by omega) i hik).2 ⟨hCi, .inr (by omega)⟩
          have := top_max (c_inc b k) hne2 _ hmem
          rw [htop2, ht] at this
          have e2 : t = i := by omega
          subst e2
          rw [he] at h8
          omega
  refine ⟨I.m1, I.lo, fun j hj h => I.pos j hj h, key, ?_⟩
  intro j k hjk hk hCj hj hRk hkk
  have h1 : (j : Int) ∈ (st b n).c := by
    rcases (I.m2 j (by omega)).1 hj with h | h
    · have := I.br j h
      rw [isC_notR hCj] at this
      cases this
    · exact h
  have h2 : (k : Int) ∈ (st b n).r := by
    rcases (I.m2 k hk).1 hkk with h | h
    · exact h
    · have := I.bc k h
      rw [isR_notC hRk] at this
      cases this
  have := (List.pairwise_append.1 I.inc).2.2 _ h2 _ h1
  omega
/-- The turned word has the turned matching. -/
theorem turn_mt {b b' : Int → Int} {n : Nat} {p : Nat → Int} (M : Mt b n p) (hC : ∀ j : Nat, j < n → isC (b' ((n - 1 - j : Nat) : Int)) = isR (b j)) (hR : ∀ j : Nat, j < n → isR (b' ((n - 1 - j : Nat) : Int)) = isC (b j)) :
    Mt b' n (fun j => if 0 ≤ p (n - 1 - j) then (n : Int) - 1 - p (n - 1 - j) else p (n - 1 - j)) := by
  have back : ∀ j : Nat, j < n → n - 1 - (n - 1 - j) = j := fun j hj => by omega
  have cC : ∀ j : Nat, j < n → isC (b' j) = isR (b ((n - 1 - j : Nat) : Int)) := fun j hj => by have := hC (n - 1 - j) (by omega); rwa [back j hj] at this
  have cR : ∀ j : Nat, j < n → isR (b' j) = isC (b ((n - 1 - j : Nat) : Int)) := fun j hj => by have := hR (n - 1 - j) (by omega); rwa [back j hj] at this
  refine ⟨?_, ?_, ?_, ?_, ?_⟩
  · intro j hj
    rw [cC j hj, cR j hj]
    have := M.inn (n - 1 - j) (by omega)
    have h2 := M.pos (n - 1 - j) (by omega)
    by_cases h : 0 ≤ p (n - 1 - j)
    · simp only [if_pos h]
      have h3 := (h2 h).1
      constructor
      · intro h4; omega
      · rintro ⟨h4, h5⟩
        have := this.2 ⟨h5, h4⟩
        omega
    · simp only [if_neg h]
      rw [this]
      exact And.comm
  · intro j hj
    have := M.lo (n - 1 - j) (by omega)
    have h2 := M.pos (n - 1 - j) (by omega)
    by_cases h : 0 ≤ p (n - 1 - j)
    · simp only [if_pos h]
      have h3 := (h2 h).1
      omega
    · simp only [if_neg h]; exact this
  · intro j hj h0
    by_cases h : 0 ≤ p (n - 1 - j)
    · simp only [if_pos h] at h0 ⊢
      obtain ⟨h1, h2, h3⟩ := M.pos (n - 1 - j) (by omega) h
      obtain ⟨t, ht⟩ := Int.eq_ofNat_of_zero_le h
      rw [ht] at h1 h2 h3 ⊢
      rw [Int.toNat_natCast] at h2
      have e : ((n : Int) - 1 - (t : Int)).toNat = n - 1 - t := by omega
      rw [e, back t (by omega), h2]
      refine ⟨by omega, ?_, ?_⟩
      · rw [if_pos (by omega)]; omega
      · rw [cC j hj, cR j hj]
        rcases h3 with h3 | h3
        · exact .inr ⟨h3.1, by omega⟩
        · exact .inl ⟨h3.1, by omega⟩
    · simp only [if_neg h] at h0
      omega
  · intro i k hi hpi hik hkp
    by_cases h : 0 ≤ p (n - 1 - i)
    · simp only [if_pos h] at hpi hkp ⊢
      obtain ⟨h1, h2, h3⟩ := M.pos (n - 1 - i) (by omega) h
      obtain ⟨t, ht⟩ := Int.eq_ofNat_of_zero_le h
      rw [ht] at h1 h2 h3 hpi hkp ⊢
      rw [Int.toNat_natCast] at h2
      obtain ⟨h4, h5⟩ := M.nest t (n - 1 - k) (by omega) (by rw [h2]; omega) (by omega) (by rw [h2]; omega)
      rw [h2] at h5
      by_cases hk : 0 ≤ p (n - 1 - k)
      · simp only [if_pos hk]
        have := h5 hk
        exact ⟨by omega, fun _ => by omega⟩
      · simp only [if_neg hk]
        exact ⟨h4, fun h6 => absurd h6 hk⟩
    · simp only [if_neg h] at hpi
      omega
  · intro j k hjk hk hCj hj hRk hkk
    rw [cC j (by omega)] at hCj
    rw [cR k hk] at hRk
    have h1 : p (n - 1 - j) = -2 := by
      have h2 := M.pos (n - 1 - j) (by omega)
      by_cases h : 0 ≤ p (n - 1 - j)
      · simp only [if_pos h] at hj
        have := (h2 h).1
        omega
      · simp only [if_neg h] at hj; exact hj
    have h3 : p (n - 1 - k) = -2 := by
      have h2 := M.pos (n - 1 - k) (by omega)
      by_cases h : 0 ≤ p (n - 1 - k)
      · simp only [if_pos h] at hkk
        have := (h2 h).1
        omega
      · simp only [if_neg h] at hkk; exact hkk
    exact M.pend (n - 1 - k) (n - 1 - j) (by omega) (by omega) hRk h3 hCj h1
theorem turned_p {b b' : Int → Int} {n : Nat} (hC : ∀ j : Nat, j < n → isC (b' ((n - 1 - j : Nat) : Int)) = isR (b j)) (hR : ∀ j : Nat, j < n → isR (b' ((n - 1 - j : Nat) : Int)) = isC (b j)) (j : Nat) (hj : j < n) :
    g (st b' n).p (n - 1 - j) = if 0 ≤ g (st b n).p j then (n : Int) - 1 - g (st b n).p j else g (st b n).p j := by
  have := mt_eq (turn_mt (st_mt b n) hC hR) (n - 1 - j) (by omega)
  rw [this, show n - 1 - (n - 1 - j) = j by omega]
theorem top_snoc6 (l : List Int) (x : Int) : top (l ++ [x]) = x := by unfold top; simp
/-- Between a call and its return: matched by itself. -/
theorem body_matched {b : Int → Int} {n i e : Nat} (hi : i < n) (he : g (st b n).p i = e) (hie : i < e) : (st (fun j => b ((i + 1 : Nat) + j)) (e - (i + 1))).r = [] ∧ (st (fun j => b ((i + 1 : Nat) + j)) (e - (i + 1))).c = [] := by
  have I := inv b n
  obtain ⟨h1, h2, h3⟩ := I.pos i hi (by omega)
  rw [he, Int.toNat_natCast] at h2
  rw [he] at h1 h3
  have hCi : isC (b i) = true := by
    rcases h3 with h3 | h3
    · exact h3.1
    · omega
  have hen : e < n := by omega
  obtain ⟨_, _, h6⟩ := I.pos e hen (by omega)
  have hRe : isR (b e) = true := by
    rcases h6 with h6 | h6
    · omega
    · exact h6.1
  obtain ⟨hne, htop⟩ := top_at hen hRe (by omega)
  rw [h2] at htop
  have key : ∀ m, m ≤ e - (i + 1) → (st (fun j => b ((i + 1 : Nat) + j)) m).r = [] ∧ (st b (i + 1 + m)).c = (st b (i + 1)).c ++ (st (fun j => b ((i + 1 : Nat) + j)) m).c.map (· + ((i + 1 : Nat) : Int)) := by
    intro m
    induction m with
    | zero => intro _; simp [st]
    | succ m ih =>
      intro hm
      obtain ⟨hr, hc⟩ := ih (by omega)
      have hcx : ((i + 1 : Nat) : Int) + (m : Int) = ((i + 1 + m : Nat) : Int) := by omega
      have hin : (i : Int) ∈ (st b (i + 1 + (m + 1))).c := (onstack b (i + 1 + (m + 1)) n (by omega) i (by omega)).2 ⟨hCi, .inr (by omega)⟩
      have hlast : (st b (i + 1)).c = (st b i).c ++ [(i : Int)] := by rw [st_succ, step_c, if_neg (by rw [isC_notR hCi]; decide), if_pos hCi]
      rw [st_succ, step_r, step_c]
      rw [show i + 1 + (m + 1) = (i + 1 + m) + 1 by omega, st_succ, step_c] at hin ⊢
      rw [hc] at hin ⊢
      simp only [hcx] at hin ⊢
      by_cases hR : isR (b ((i + 1 + m : Nat) : Int)) = true
      · rw [if_pos hR] at hin
        rw [if_pos hR, if_pos hR]
        by_cases h0 : (st (fun j => b ((i + 1 : Nat) + j)) m).c = []
        · exfalso
          rw [h0, List.map_nil, List.append_nil, hlast, List.dropLast_concat] at hin
          have := (basic b i).hc _ hin
          omega
        · rw [if_neg (fun h => h0 h.2)]
          refine ⟨hr, ?_⟩
          rw [dropLast_app _ _ (by simpa using h0), List.map_dropLast]
      · rw [if_neg (fun h => hR h.1), if_neg hR, if_neg hR]
        refine ⟨hr, ?_⟩
        by_cases hC : isC (b ((i + 1 + m : Nat) : Int)) = true
        · rw [if_pos hC, if_pos hC, List.map_append, List.append_assoc]
          simp
          omega
        · rw [if_neg hC, if_neg hC]
  obtain ⟨hr, hc⟩ := key (e - (i + 1)) (Nat.le_refl _)
  refine ⟨hr, ?_⟩
  rw [show i + 1 + (e - (i + 1)) = e by omega] at hc
  by_cases h0 : (st (fun j => b ((i + 1 : Nat) + j)) (e - (i + 1))).c = []
  · exact h0
  · exfalso
    have hm := top_mem h0
    have : top (st b e).c = top (st (fun j => b ((i + 1 : Nat) + j)) (e - (i + 1))).c + ((i + 1 : Nat) : Int) := by
      have e2 : (st (fun j => b ((i + 1 : Nat) + j)) (e - (i + 1))).c.map (· + ((i + 1 : Nat) : Int)) = ((st (fun j => b ((i + 1 : Nat) + j)) (e - (i + 1))).c.dropLast).map (· + ((i + 1 : Nat) : Int)) ++ [top (st (fun j => b ((i + 1 : Nat) + j)) (e - (i + 1))).c + ((i + 1 : Nat) : Int)] := by
        conv => lhs; rw [← dropLast_top h0]
        rw [List.map_append]
        rfl
      rw [hc, e2, ← List.append_assoc]
      exact top_snoc6 _ _
    have h9 := ((basic (fun j => b ((i + 1 : Nat) + j)) (e - (i + 1))).hc _ hm).1
    omega
end Go.Proofs.Ythhmkkclmopkhaa.Th
namespace Go.Proofs.Ythhmkkclmopkhaa.Pure
open Go.RowKit Go.Proofs.Ythhmkkclmopkhaa.P Go.Proofs.YthhmkkclmopkhaaW.PrintWords Go.Proofs.YthhmkkclmopkhaaW.PrintLast Go.Proofs.YthhmkkclmopkhaaW.PrintMore Go.Proofs.Ythhmkkclmopkhaa.Br Go.Proofs.Ythhmkkclmopkhaa.Th
set_option linter.unusedVariables false
set_option linter.unusedSimpArgs false

theorem call_eq (b : Int) : laws_a2Call.f b = some (isC b) := by
  unfold laws_a2Call.f isC
  by_cases h : b = 40 <;> simp [h]
theorem return_eq (b : Int) : laws_a2Return.f b = some (isR b) := by
  unfold laws_a2Return.f isR
  by_cases h : b = 41 <;> simp [h]
def pnd (w : ByteArray) (i : Nat) : ByteArray := strOfNums (at_ w (sel (fun j => g (st (bt w) w.size).p j == -2) i))
theorem pnd_size (w : ByteArray) (i : Nat) : (pnd w i).size ≤ i := by
  unfold pnd
  rw [sn_size, at_, List.length_map]
  exact sel_len i
theorem body_m {w : ByteArray} {i e : Nat} (hi : i < w.size) (he : g (st (bt w) w.size).p i = e) (hie : i < e) (hew : e ≤ w.size) : mtc (w.extract (i + 1) e) = true := by
  obtain ⟨h1, h2⟩ := body_matched hi he hie
  have hs : (w.extract (i + 1) e).size = e - (i + 1) := by rw [ByteArray.size_extract]; omega
  have hc : st (bt (w.extract (i + 1) e)) (w.extract (i + 1) e).size = st (fun j => bt w ((i + 1 : Nat) + j)) (e - (i + 1)) := by
    rw [hs]
    refine st_congr _ fun j hj => ?_
    rw [bt_extract w hew (by omega)]
    congr 1
  unfold mtc
  rw [hc, h1, h2]
  decide
set_option maxHeartbeats 1000000 in
theorem matching_l (w : ByteArray) (ow : okw w = true) : ∀ i, i ≤ w.size →
    Ev (fun k => laws_FnMatching.l0 k w (st (bt w) w.size).p (st (bt (tt w)) w.size).p (pnd w w.size) (pnd w i) (w.size : Int) i) true := by
  have hs := okw_size ow
  have I := inv (bt w) w.size
  have lp := I.ba.lp
  have lq := (basic (bt (tt w)) w.size).lp
  have hq : ∀ j : Nat, j < w.size → g (st (bt (tt w)) w.size).p (w.size - 1 - j) = if 0 ≤ g (st (bt w) w.size).p j then (w.size : Int) - 1 - g (st (bt w) w.size).p j else g (st (bt w) w.size).p j := by
    intro j hj
    refine turned_p (fun j hj => ?_) (fun j hj => ?_) j hj
    · rw [tt_bt ow (by omega), show w.size - 1 - (w.size - 1 - j) = j by omega]
      exact (oth_C (okw_sym ow hj)).1
    · rw [tt_bt ow (by omega), show w.size - 1 - (w.size - 1 - j) = j by omega]
      exact (oth_C (okw_sym ow hj)).2
  have hbody := fun i e => body_m (w := w) (i := i) (e := e)
  have hpe : ∀ i, pnd w (i + 1) = if g (st (bt w) w.size).p i = -2 then strOfNums (at_ w (sel (fun j => g (st (bt w) w.size).p j == -2) i) ++ [bt w i]) else pnd w i := by
    intro i
    unfold pnd
    rw [sel]
    by_cases h : g (st (bt w) w.size).p i = -2
    · rw [if_pos (by rw [h]; rfl), if_pos h]
      unfold at_
      rw [List.map_append]
      rfl
    · rw [if_neg (by rw [beq_iff_eq]; exact h), if_neg h]
  generalize hp : (st (bt w) w.size).p = p at *
  generalize (st (bt (tt w)) w.size).p = q at *
  refine down w.size ?_ ?_
  · refine Ev.succ ?_
    simp only [laws_FnMatching.l0, if_neg (show ¬ (w.size : Int) < (w.size : Int) by omega)]
    exact Ev.done (by simp)
  · intro i hi ih
    have b0 : (i : Int) < (w.size : Int) := by omega
    have b1 : (i : Int) < (p.length : Int) := by omega
    have m1 := I.m1 i hi
    have lo := I.lo i hi
    have pos := I.pos i hi
    rw [hp] at m1 lo pos
    have u1 := up1 i (by omega)
    have f1 : wrap64 ((w.size : Int) - 1) = (w.size : Int) - 1 := by clear u1; exact Br.w64 (by omega) (by omega)
    have f2 : wrap64 ((w.size : Int) - 1 - (i : Int)) = ((w.size - 1 - i : Nat) : Int) := by clear u1 f1; rw [Br.w64 (by omega) (by omega)]; omega
    have b2 : ((w.size - 1 - i : Nat) : Int) < (q.length : Int) := by clear u1 f1 f2; omega
    have next : Ev (fun k => laws_FnMatching.l0 k w p q (pnd w w.size) (pnd w (i + 1)) (w.size : Int) (wrap64 ((i : Int) + 1))) true := by rw [u1]; exact ih
    have j6 : Ev (fun k => laws_FnMatching.j6 k w p q (pnd w w.size) (pnd w (i + 1)) (w.size : Int) i false) true := by
      refine Ev.succ ?_
      simp only [laws_FnMatching.j6, Bool.false_eq_true, if_false, if_pos (i0 i), if_pos b1, g_rd]
      by_cases hgt : g p i > (i : Int)
      · obtain ⟨e, he⟩ := Int.eq_ofNat_of_zero_le (show 0 ≤ g p i by clear u1 f1 f2; omega)
        rw [he] at hgt pos ⊢
        obtain ⟨p1, p2, p3⟩ := pos (i0 e)
        have hew : e ≤ w.size := by clear u1 f1 f2; omega
        have hie : i < e := by clear u1 f1 f2; omega
        have hC : isC (bt w i) = true := by
          rcases p3 with p3 | p3
          · exact p3.1
          · clear u1 f1 f2; omega
        have hbR : bodyR w i = (w.extract (i + 1) e, 0) := by
          have hc : clo w i = ((e : Int), 0) := by
            unfold clo
            rw [if_pos ow, if_pos (by clear u1 f1 f2; omega), hp, g_rd, he, if_pos ⟨hC, i0 e⟩]
          unfold bodyR
          rw [hc, if_pos rfl]
          congr 2
        have hb := iBody_ev w i (by clear u1 f1 f2; omega) (by clear u1 f1 f2; simp [Lit.wf, IntKind.min, IntKind.max, IntKind.bits, IntKind.signed]; omega)
        rw [hbR] at hb
        have hx : (w.extract (i + 1) e).size ≤ 1048576 := by rw [ByteArray.size_extract]; clear u1 f1 f2; omega
        have hm := iIsMatched_ev (w.extract (i + 1) e) hx
        rw [if_pos (okw_extract ow hew), hbody i e hi he hie hew] at hm
        simp only [if_pos hgt]
        refine Ev.bind hb ?_
        simp only [u1, if_pos (i0 (i + 1)), if_pos (show ((i + 1 : Nat) : Int) ≤ (e : Int) by clear u1 f1 f2; omega), if_pos (show (e : Int) ≤ (w.size : Int) by clear u1 f1 f2; omega), Int.toNat_natCast]
        refine Ev.bind hm ?_
        simp only [if_true]
        exact ih
      · simp only [if_neg hgt]
        exact next
    have j5 : Ev (fun k => laws_FnMatching.j5 k w p q (pnd w w.size) (pnd w (i + 1)) (w.size : Int) i) true := by
      refine Ev.succ ?_
      simp only [laws_FnMatching.j5, if_pos (i0 i), if_pos b1, g_rd]
      by_cases h0 : g p i < 0
      · simp only [if_pos h0]
        exact next
      · obtain ⟨e, he⟩ := Int.eq_ofNat_of_zero_le (show 0 ≤ g p i by clear u1 f1 f2; omega)
        rw [he] at pos h0 ⊢
        obtain ⟨p1, p2, p3⟩ := pos (i0 e)
        rw [Int.toNat_natCast] at p2
        have b3 : (e : Int) < (p.length : Int) := by clear u1 f1 f2; omega
        simp only [if_neg h0, if_pos (i0 e), if_pos b3, g_rd, p2, if_true, if_pos b0, call_eq, Option.bind_some]
        have hx : (isC (bt w i) != decide ((e : Int) > (i : Int))) = false := by
          rcases p3 with p3 | p3
          · rw [p3.1, decide_eq_true p3.2]; rfl
          · rw [isR_notC p3.1, decide_eq_false (by clear u1 f1 f2; omega)]; rfl
        rw [hx]
        exact j6
    have hqi := hq i hi
    have j4 : ∀ x : Int, x = (if 0 ≤ g p i then (w.size : Int) - 1 - g p i else g p i) → Ev (fun k => laws_FnMatching.j4 k w p q (pnd w w.size) (pnd w i) (w.size : Int) i x) true := by
      rintro x rfl
      refine Ev.succ ?_
      simp only [laws_FnMatching.j4, f1, f2, if_pos (i0 (w.size - 1 - i)), if_pos b2, g_rd, hqi, if_true, if_pos (i0 i), if_pos b1]
      have hpi := hpe i
      by_cases h2 : g p i = -2
      · rw [if_pos h2] at hpi
        have c1 : (i : Int) ≤ ((i + 1 : Nat) : Int) := by clear u1 f1 f2; omega
        have c2 : ((i + 1 : Nat) : Int) ≤ (w.size : Int) := by clear u1 f1 f2; omega
        have c3 : (pnd w i).size + (w.extract i (i + 1)).size ≤ 9223372036854775807 := by
          have := pnd_size w i
          rw [ByteArray.size_extract]
          clear u1 f1 f2; omega
        have c4 : pnd w i ++ w.extract i (i + 1) = pnd w (i + 1) := by
          rw [hpi]
          unfold pnd
          rw [hp]
          exact sn_snoc _ w hi
        simp only [if_pos h2, u1, if_pos c1, if_pos c2, Int.toNat_natCast, if_pos c3, c4]
        exact j5
      · rw [if_neg h2] at hpi
        simp only [if_neg h2]
        rw [← hpi]
        exact j5
    have j3 : Ev (fun k => laws_FnMatching.j3 k w p q (pnd w w.size) (pnd w i) (w.size : Int) i false) true := by
      refine Ev.succ ?_
      simp only [laws_FnMatching.j3, Bool.false_eq_true, if_false, if_pos (i0 i), if_pos b1, g_rd, f1]
      by_cases h0 : g p i ≥ 0
      · simp only [if_pos h0]
        refine j4 _ ?_
        rw [if_pos h0]
        have := (pos h0).1
        clear u1 f1 f2
        exact Br.w64 (by omega) (by omega)
      · simp only [if_neg h0]
        refine j4 _ ?_
        rw [if_neg h0]
    have j2 : Ev (fun k => laws_FnMatching.j2 k w p q (pnd w w.size) (pnd w i) (w.size : Int) i (!isC (bt w i) && !isR (bt w i))) true := by
      refine Ev.succ ?_
      have hx : ((g p i == -1) != (!isC (bt w i) && !isR (bt w i))) = false := by
        by_cases h : g p i = -1
        · have := m1.1 h
          rw [this.1, this.2, h]
          rfl
        · have h2 : ¬ (isC (bt w i) = false ∧ isR (bt w i) = false) := fun h3 => h (m1.2 h3)
          rw [beq_eq_false_iff_ne.2 h]
          cases hC : isC (bt w i) with
          | true => rfl
          | false =>
            cases hR : isR (bt w i) with
            | true => rfl
            | false => exact absurd ⟨hC, hR⟩ h2
      have hy : decide (g p i ≥ (w.size : Int)) = false := by
        refine decide_eq_false ?_
        intro h
        have := (pos (by clear u1 f1 f2; omega)).1
        clear u1 f1 f2; omega
      simp only [laws_FnMatching.j2, if_pos (i0 i), if_pos b1, g_rd, hx, Bool.false_eq_true, if_false, if_neg (show ¬ g p i < -2 by clear u1 f1 f2; omega), hy]
      exact j3
    refine Ev.succ ?_
    simp only [laws_FnMatching.l0, if_pos b0, if_pos (i0 i), call_eq, Option.bind_some]
    cases hC : isC (bt w i) with
    | true =>
      rw [hC] at j2
      simp only [if_true]
      exact j2
    | false =>
      rw [hC] at j2
      simp only [Bool.false_eq_true, if_false, return_eq, Option.bind_some]
      exact j2
theorem FnMatching : laws_FnMatching.Pure := by
  intro l m h1 h2 h3 h4 h5 h6
  apply Ev.rounds
  unfold laws_FnMatching.f laws_a2Long.f
  by_cases c0 : (l.length : Int) > 3000
  · simp only [if_pos c0, Option.bind_some, if_true]; exact Ev.now _
  by_cases c1 : (m.length : Int) > 3000
  · simp only [if_neg c0, Option.bind_some, c1, decide_true, if_true]; exact Ev.now _
  simp only [if_neg c0, Option.bind_some, c1, decide_false, Bool.false_eq_true, if_false]
  obtain ⟨w, ew, ow, sw⟩ := a2word l (bytes_of_wf h3) 16 (by decide)
  have hn : w.size ≤ 1048576 := by omega
  have hnt : (tt w).size ≤ 1048576 := by rw [tt_size]; exact hn
  have hp : Ev (fun k => impl_PendingOf.f k w) (((st (bt w) w.size).r.length : Int), ((st (bt w) w.size).c.length : Int), 0) := by
    unfold impl_PendingOf.f
    refine Ev.bind (valid_ev w hn) ?_
    simp only [ow, if_true]
    exact Ev.bind (match_ev w hn) (Ev.now _)
  have e1 := iPartners_ev w hn
  have e2 := iTurn_ev w hn
  have e3 := iPartners_ev (tt w) hnt
  have e4 := iTurn_ev (tt w) hnt
  have e6 := iCore_ev w hn
  have e7 := iIsMatched_ev w hn
  rw [if_pos ow] at e1 e2 e6 e7
  rw [if_pos (tt_ok ow)] at e3 e4
  rw [tt_tt ow] at e4
  rw [tt_size] at e3
  refine Ev.bind ew (Ev.bind e1 (Ev.bind e2 (Ev.bind e3 (Ev.bind e4 (Ev.bind hp (Ev.bind e6 (Ev.bind e7 ?_)))))))
  have B := basic (bt w) w.size
  have Bt := basic (bt (tt w)) w.size
  have l1 : ((st (bt w) w.size).p.length : Int) = (w.size : Int) := by rw [B.lp]
  have l2 : ((st (bt (tt w)) w.size).p.length : Int) = (w.size : Int) := by rw [Bt.lp]
  have l3 : ((tt w).size : Int) = (w.size : Int) := by rw [tt_size]
  have q1 := B.lr
  have q2 := B.lc
  have f1 : wrap64 (((st (bt w) w.size).r.length : Int) + ((st (bt w) w.size).c.length : Int)) = ((st (bt w) w.size).r.length : Int) + ((st (bt w) w.size).c.length : Int) := Br.w64 (by omega) (by omega)
  have hm : (mtc w != ((((st (bt w) w.size).r.length : Int) + ((st (bt w) w.size).c.length : Int)) == 0)) = false := by unfold mtc; simp
  have hc : ((strOfNums (at_ w ((st (bt w) w.size).r ++ (st (bt w) w.size).c))).size : Int) = ((st (bt w) w.size).r.length : Int) + ((st (bt w) w.size).c.length : Int) := by
    rw [sn_size, at_, List.length_map, List.length_append]; omega
  simp only [l1, l2, l3, if_true, f1, hm, Bool.false_eq_true, if_false, hc, bne_self_eq_false]
  refine Ev.succ ?_
  simp only [laws_FnMatching.j0, Bool.false_eq_true, if_false]
  have := matching_l w ow 0 (Nat.zero_le _)
  have hcore : pnd w w.size = strOfNums (at_ w ((st (bt w) w.size).r ++ (st (bt w) w.size).c)) := by
    unfold pnd
    rw [pend_all]
  rw [hcore] at this
  exact this
end Go.Proofs.Ythhmkkclmopkhaa.Pure
