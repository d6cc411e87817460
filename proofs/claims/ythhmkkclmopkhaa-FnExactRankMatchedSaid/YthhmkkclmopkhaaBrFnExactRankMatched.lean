/- What the law FnExactRankMatched leans on: plain facts, and what the printed functions that it reaches come to; for all arguments that the facts name. -/
import Derived.Test.YthhmkkclmopkhaaPx0
import Derived.Test.YthhmkkclmopkhaaPx23
import Derived.Test.YthhmkkclmopkhaaPx24
import Derived.Test.YthhmkkclmopkhaaPx26
import Derived.Test.YthhmkkclmopkhaaPx28
import Derived.Test.YthhmkkclmopkhaaPx29
import Derived.Test.YthhmkkclmopkhaaPx30
import Derived.Test.YthhmkkclmopkhaaPx32
import Derived.Test.YthhmkkclmopkhaaPx35
import Derived.Test.YthhmkkclmopkhaaPx36
import Derived.Test.YthhmkkclmopkhaaPx37
import Derived.Test.YthhmkkclmopkhaaPx40
import Derived.Test.YthhmkkclmopkhaaPx41
import Derived.Test.YthhmkkclmopkhaaPx42
import Derived.Test.YthhmkkclmopkhaaPx44
import Derived.Test.YthhmkkclmopkhaaPx45
import Derived.Test.YthhmkkclmopkhaaPx48
import Derived.Test.YthhmkkclmopkhaaPx49
import Derived.Test.YthhmkkclmopkhaaPx50
import Derived.Test.YthhmkkclmopkhaaPx51
import Derived.Test.YthhmkkclmopkhaaPx55
import Derived.Test.YthhmkkclmopkhaaPx58
namespace Go.Proofs.Ythhmkkclmopkhaa.Th

def isC (b : Int) : Bool := b == 40 || b == 91
def isR (b : Int) : Bool := b == 41 || b == 93

structure St where
  p : List Int
  r : List Int
  c : List Int
  d : List Int
  q : List Int

def top (c : List Int) : Int := c.getLast?.getD (-1)

def step (s : St) (i b : Int) : St :=
  if isR b = true then
    if s.c = [] then ⟨s.p ++ [-2], s.r ++ [i], [], s.d ++ [0], s.q ++ [-1]⟩
    else ⟨s.p.set (top s.c).toNat i ++ [top s.c], s.r, s.c.dropLast, s.d ++ [(s.c.dropLast.length : Int)], s.q ++ [top s.c.dropLast]⟩
  else if isC b = true then ⟨s.p ++ [-2], s.r, s.c ++ [i], s.d ++ [(s.c.length : Int) + 1], s.q ++ [top s.c]⟩
  else ⟨s.p ++ [-1], s.r, s.c, s.d ++ [(s.c.length : Int)], s.q ++ [top s.c]⟩

def st (b : Int → Int) : Nat → St
  | 0 => ⟨[], [], [], [0], []⟩
  | n + 1 => step (st b n) n (b n)

theorem isR_notC {b : Int} (h : isR b = true) : isC b = false := by
  unfold isR at h; unfold isC
  simp at h ⊢
  omega

structure Basic (s : St) (n : Nat) : Prop where
  lp : s.p.length = n
  lq : s.q.length = n
  ld : s.d.length = n + 1
  lr : s.r.length ≤ n
  lc : s.c.length ≤ n
  hc : ∀ x ∈ s.c, 0 ≤ x ∧ x < n
  hr : ∀ x ∈ s.r, 0 ≤ x ∧ x < n

theorem top_mem {c : List Int} (h : c ≠ []) : top c ∈ c := by
  unfold top
  rw [List.getLast?_eq_some_getLast h]
  exact List.getLast_mem h

theorem basic (b : Int → Int) : ∀ n, Basic (st b n) n
  | 0 => by constructor <;> simp [st]
  | n + 1 => by
    have ih := basic b n
    obtain ⟨h1, h2, h3, h4, h5, h6, h7⟩ := ih
    unfold st step
    split
    · split
      · constructor <;> simp_all
        · intro x hx; rcases hx with hx | hx
          · have := h7 x hx; omega
          · omega
      · rename_i hne
        have hd : ∀ x ∈ (st b n).c.dropLast, x ∈ (st b n).c := fun x hx => List.dropLast_subset _ hx
        constructor
        · simp; exact h1
        · simp; exact h2
        · simp; exact h3
        · simp; omega
        · simp; omega
        · intro x hx; have := h6 x (hd x hx); constructor <;> omega
        · intro x hx; have := h7 x hx; constructor <;> omega
    · split
      · constructor
        · simp; exact h1
        · simp; exact h2
        · simp; exact h3
        · simp; omega
        · simp; omega
        · intro x hx
          rcases List.mem_append.1 hx with hx | hx
          · have := h6 x hx; constructor <;> omega
          · simp at hx; omega
        · intro x hx; have := h7 x hx; constructor <;> omega
      · constructor
        · simp; exact h1
        · simp; exact h2
        · simp; exact h3
        · simp; omega
        · simp; omega
        · intro x hx; have := h6 x hx; constructor <;> omega
        · intro x hx; have := h7 x hx; constructor <;> omega


def g (l : List Int) (j : Nat) : Int := l.getD j 0

theorem g_append_left {l m : List Int} {j : Nat} (h : j < l.length) : g (l ++ m) j = g l j := by
  unfold g; simp [List.getD_eq_getElem?_getD, List.getElem?_append_left h]
theorem g_append_end {l : List Int} {x : Int} {j : Nat} (h : j = l.length) : g (l ++ [x]) j = x := by
  subst h; unfold g; simp [List.getD_eq_getElem?_getD]
theorem g_set {l : List Int} {t j : Nat} {x : Int} : g (l.set t x) j = if t = j ∧ j < l.length then x else g l j := by
  unfold g
  simp only [List.getD_eq_getElem?_getD, List.getElem?_set]
  by_cases h : t = j
  · subst h
    by_cases h2 : t < l.length
    · simp [h2]
    · simp [h2]
  · simp [h]

structure Inv (b : Int → Int) (s : St) (n : Nat) : Prop where
  ba : Basic s n
  inc : (s.r ++ s.c).Pairwise (· < ·)
  m2 : ∀ j : Nat, j < n → (g s.p j = -2 ↔ (j : Int) ∈ s.r ∨ (j : Int) ∈ s.c)
  br : ∀ j : Nat, (j : Int) ∈ s.r → isR (b j) = true
  bc : ∀ j : Nat, (j : Int) ∈ s.c → isC (b j) = true
  m1 : ∀ j : Nat, j < n → (g s.p j = -1 ↔ isC (b j) = false ∧ isR (b j) = false)
  pos : ∀ j : Nat, j < n → 0 ≤ g s.p j → g s.p j < n ∧ g s.p (g s.p j).toNat = j ∧ ((isC (b j) = true ∧ (j : Int) < g s.p j) ∨ (isR (b j) = true ∧ g s.p j < j))
  lo : ∀ j : Nat, j < n → -2 ≤ g s.p j

theorem pw_mem {l : List Int} {x : Int} (h : (l ++ [x]).Pairwise (· < ·)) : ∀ y ∈ l, y < x := by
  intro y hy
  exact (List.pairwise_append.1 h).2.2 y hy x (by simp)

theorem dropLast_top {c : List Int} (h : c ≠ []) : c.dropLast ++ [top c] = c := by
  unfold top
  rw [List.getLast?_eq_some_getLast h]
  exact List.dropLast_concat_getLast h

theorem inv (b : Int → Int) : ∀ n, Inv b (st b n) n
  | 0 => by
    constructor <;> first | exact basic b 0 | simp [st]
  | n + 1 => by
    have ih := inv b n
    have hba := basic b (n + 1)
    have hst : st b (n + 1) = step (st b n) n (b n) := rfl
    obtain ⟨B, inc, m2, br, bc, m1, pos, lo⟩ := ih
    obtain ⟨lp, lq, ld, lr, lc, hc, hr⟩ := B
    generalize hs : st b n = s at *
    rw [hst] at hba ⊢
    by_cases hR : isR (b n) = true
    · have hC := isR_notC hR
      by_cases he : s.c = []
      · have e : step s n (b n) = ⟨s.p ++ [-2], s.r ++ [(n : Int)], [], s.d ++ [0], s.q ++ [-1]⟩ := by simp [step, hR, he]
        rw [e] at hba ⊢
        rw [he, List.append_nil] at inc
        have gl : ∀ j : Nat, j < n → g (s.p ++ [-2]) j = g s.p j := fun j hj => g_append_left (by omega)
        have gn : g (s.p ++ [-2]) n = -2 := g_append_end lp.symm
        refine ⟨hba, ?_, ?_, ?_, ?_, ?_, ?_, ?_⟩
        · simp only [List.append_nil]
          refine List.pairwise_append.2 ⟨inc, by simp, ?_⟩
          intro a ha x hx; simp at hx; subst hx; exact (hr a ha).2
        · intro j hj
          by_cases hjn : j = n
          · subst hjn; simp [gn]
          · have hj' : j < n := by omega
            rw [gl j hj', m2 j hj', he]
            simp; omega
        · intro j hj
          rcases List.mem_append.1 hj with h | h
          · exact br j h
          · simp at h; rw [show j = n by omega]; exact hR
        · intro j hj; simp at hj
        · intro j hj
          by_cases hjn : j = n
          · subst hjn; simp [gn, hR]
          · have hj' : j < n := by omega
            rw [gl j hj']; exact m1 j hj'
        · intro j hj h0
          by_cases hjn : j = n
          · subst hjn; rw [gn] at h0; omega
          · have hj' : j < n := by omega
            rw [gl j hj'] at h0 ⊢
            obtain ⟨p1, p2, p3⟩ := pos j hj' h0
            refine ⟨by omega, ?_, p3⟩
            rw [gl _ (by omega)]; exact p2
        · intro j hj
          by_cases hjn : j = n
          · subst hjn; rw [gn]; omega
          · have hj' : j < n := by omega
            rw [gl j hj']; exact lo j hj'
      · have e : step s n (b n) = ⟨s.p.set (top s.c).toNat n ++ [top s.c], s.r, s.c.dropLast, s.d ++ [(s.c.dropLast.length : Int)], s.q ++ [top s.c.dropLast]⟩ := by simp [step, hR, he]
        rw [e] at hba ⊢
        have ht := top_mem he
        obtain ⟨t0, t1⟩ := hc _ ht
        obtain ⟨t, htt⟩ := Int.eq_ofNat_of_zero_le t0
        have hdt := dropLast_top he
        have htn : t < n := by omega
        have ht2 : g s.p t = -2 := (m2 t htn).2 (Or.inr (htt ▸ ht))
        have htC : isC (b t) = true := bc t (htt ▸ ht)
        rw [htt] at hdt ⊢
        simp only [Int.toNat_natCast]
        have inc' : (s.r ++ s.c.dropLast ++ [(t : Int)]).Pairwise (· < ·) := by rw [List.append_assoc, hdt]; exact inc
        have hlt := pw_mem inc'
        have gn : g (s.p.set t n ++ [(t : Int)]) n = t := g_append_end (by simp [lp])
        have gl : ∀ j : Nat, j < n → g (s.p.set t n ++ [(t : Int)]) j = if t = j then (n : Int) else g s.p j := by
          intro j hj
          rw [g_append_left (by simp; omega), g_set]
          by_cases h : t = j
          · simp [h]; omega
          · simp [h]
        have hcm : ∀ j : Nat, (j : Int) ∈ s.c ↔ (j : Int) ∈ s.c.dropLast ∨ j = t := by
          intro j
          conv => lhs; rw [← hdt]
          rw [List.mem_append, List.mem_singleton, Int.ofNat_inj]
        refine ⟨by rw [htt] at hba; simpa using hba, ?_, ?_, ?_, ?_, ?_, ?_, ?_⟩
        · exact (List.pairwise_append.1 inc').1
        · intro j hj
          by_cases hjn : j = n
          · subst hjn
            rw [gn]
            constructor
            · intro h; omega
            · intro h
              rcases h with h | h
              · have := hr _ h; omega
              · have := hc _ ((hcm j).2 (Or.inl h)); omega
          · have hj' : j < n := by omega
            rw [gl j hj']
            by_cases hjt : t = j
            · subst hjt
              simp only [if_true]
              constructor
              · intro h; omega
              · intro h
                rcases h with h | h
                · have := hlt t (by simp [h]); omega
                · have := hlt t (by simp [h]); omega
            · rw [if_neg hjt, m2 j hj', hcm j]
              constructor
              · rintro (h | h | h)
                · exact Or.inl h
                · exact Or.inr h
                · omega
              · rintro (h | h)
                · exact Or.inl h
                · exact Or.inr (Or.inl h)
        · exact br
        · intro j hj; exact bc j ((hcm j).2 (Or.inl hj))
        · intro j hj
          by_cases hjn : j = n
          · subst hjn; rw [gn]; simp [hR]
          · have hj' : j < n := by omega
            rw [gl j hj']
            by_cases hjt : t = j
            · subst hjt; simp [htC]
            · rw [if_neg hjt]; exact m1 j hj'
        · intro j hj h0
          by_cases hjn : j = n
          · subst hjn
            rw [gn]
            refine ⟨by omega, ?_, Or.inr ⟨hR, by omega⟩⟩
            rw [Int.toNat_natCast, gl t htn, if_pos rfl]
          · have hj' : j < n := by omega
            rw [gl j hj'] at h0 ⊢
            by_cases hjt : t = j
            · subst hjt
              simp only [if_true]
              refine ⟨by omega, ?_, Or.inl ⟨htC, by omega⟩⟩
              rw [Int.toNat_natCast, gn]
            · rw [if_neg hjt] at h0 ⊢
              obtain ⟨p1, p2, p3⟩ := pos j hj' h0
              refine ⟨by omega, ?_, p3⟩
              rw [gl _ (by omega), if_neg]
              · exact p2
              · intro h; rw [← h, ht2] at p2; omega
        · intro j hj
          by_cases hjn : j = n
          · subst hjn; rw [gn]; omega
          · have hj' : j < n := by omega
            rw [gl j hj']
            split
            · omega
            · exact lo j hj'
    · have hR' : isR (b n) = false := by simpa using hR
      by_cases hC : isC (b n) = true
      · have e : step s n (b n) = ⟨s.p ++ [-2], s.r, s.c ++ [(n : Int)], s.d ++ [(s.c.length : Int) + 1], s.q ++ [top s.c]⟩ := by simp [step, hR, hC]
        rw [e] at hba ⊢
        have gl : ∀ j : Nat, j < n → g (s.p ++ [-2]) j = g s.p j := fun j hj => g_append_left (by omega)
        have gn : g (s.p ++ [-2]) n = -2 := g_append_end lp.symm
        refine ⟨hba, ?_, ?_, ?_, ?_, ?_, ?_, ?_⟩
        · rw [← List.append_assoc]
          refine List.pairwise_append.2 ⟨inc, by simp, ?_⟩
          intro a ha x hx; simp at hx; subst hx
          rcases List.mem_append.1 ha with h | h
          · exact (hr a h).2
          · exact (hc a h).2
        · intro j hj
          by_cases hjn : j = n
          · subst hjn; simp [gn]
          · have hj' : j < n := by omega
            rw [gl j hj', m2 j hj', List.mem_append, List.mem_singleton, Int.ofNat_inj]
            constructor
            · rintro (h | h)
              · exact Or.inl h
              · exact Or.inr (Or.inl h)
            · rintro (h | h | h)
              · exact Or.inl h
              · exact Or.inr h
              · omega
        · exact br
        · intro j hj
          rcases List.mem_append.1 hj with h | h
          · exact bc j h
          · simp at h; rw [show j = n by omega]; exact hC
        · intro j hj
          by_cases hjn : j = n
          · subst hjn; simp [gn, hC]
          · have hj' : j < n := by omega
            rw [gl j hj']; exact m1 j hj'
        · intro j hj h0
          by_cases hjn : j = n
          · subst hjn; rw [gn] at h0; omega
          · have hj' : j < n := by omega
            rw [gl j hj'] at h0 ⊢
            obtain ⟨p1, p2, p3⟩ := pos j hj' h0
            refine ⟨by omega, ?_, p3⟩
            rw [gl _ (by omega)]; exact p2
        · intro j hj
          by_cases hjn : j = n
          · subst hjn; rw [gn]; omega
          · have hj' : j < n := by omega
            rw [gl j hj']; exact lo j hj'
      · have hC' : isC (b n) = false := by simpa using hC
        have e : step s n (b n) = ⟨s.p ++ [-1], s.r, s.c, s.d ++ [(s.c.length : Int)], s.q ++ [top s.c]⟩ := by simp [step, hR, hC]
        rw [e] at hba ⊢
        have gl : ∀ j : Nat, j < n → g (s.p ++ [-1]) j = g s.p j := fun j hj => g_append_left (by omega)
        have gn : g (s.p ++ [-1]) n = -1 := g_append_end lp.symm
        refine ⟨hba, inc, ?_, br, bc, ?_, ?_, ?_⟩
        · intro j hj
          by_cases hjn : j = n
          · subst hjn; rw [gn]
            constructor
            · intro h; omega
            · rintro (h | h)
              · have := hr _ h; omega
              · have := hc _ h; omega
          · have hj' : j < n := by omega
            rw [gl j hj', m2 j hj']
        · intro j hj
          by_cases hjn : j = n
          · subst hjn; simp [gn, hC', hR']
          · have hj' : j < n := by omega
            rw [gl j hj']; exact m1 j hj'
        · intro j hj h0
          by_cases hjn : j = n
          · subst hjn; rw [gn] at h0; omega
          · have hj' : j < n := by omega
            rw [gl j hj'] at h0 ⊢
            obtain ⟨p1, p2, p3⟩ := pos j hj' h0
            refine ⟨by omega, ?_, p3⟩
            rw [gl _ (by omega)]; exact p2
        · intro j hj
          by_cases hjn : j = n
          · subst hjn; rw [gn]; omega
          · have hj' : j < n := by omega
            rw [gl j hj']; exact lo j hj'

/-- Two increasing lists with the same members. -/
theorem inc_ext : ∀ {l m : List Int}, l.Pairwise (· < ·) → m.Pairwise (· < ·) → (∀ x, x ∈ l ↔ x ∈ m) → l = m
  | [], [], _, _, _ => rfl
  | [], y :: m, _, _, h => by have := (h y).2 (by simp); simp at this
  | x :: l, [], _, _, h => by have := (h x).1 (by simp); simp at this
  | x :: l, y :: m, hl, hm, h => by
    obtain ⟨a1, a2⟩ := List.pairwise_cons.1 hl
    obtain ⟨b1, b2⟩ := List.pairwise_cons.1 hm
    have e : x = y := by
      rcases List.mem_cons.1 ((h x).1 (by simp)) with r | r
      · exact r
      · rcases List.mem_cons.1 ((h y).2 (by simp)) with r2 | r2
        · exact r2.symm
        · have := b1 x r; have := a1 y r2; omega
    subst e
    congr 1
    refine inc_ext a2 b2 fun z => ?_
    have hz := h z
    constructor
    · intro hz2
      rcases List.mem_cons.1 (hz.1 (List.mem_cons_of_mem _ hz2)) with r | r
      · have := a1 z hz2; omega
      · exact r
    · intro hz2
      rcases List.mem_cons.1 (hz.2 (List.mem_cons_of_mem _ hz2)) with r | r
      · have := b1 z hz2; omega
      · exact r

/-- The places up to i for which a test says yes, in order. -/
def sel (f : Nat → Bool) : Nat → List Int
  | 0 => []
  | i + 1 => if f i then sel f i ++ [(i : Int)] else sel f i

theorem mem_sel {f : Nat → Bool} : ∀ {i : Nat} {x : Int}, x ∈ sel f i ↔ ∃ j : Nat, j < i ∧ x = j ∧ f j = true
  | 0, x => by simp [sel]
  | i + 1, x => by
    unfold sel
    split
    · rename_i h
      rw [List.mem_append, mem_sel (i := i)]
      constructor
      · rintro (⟨j, h1, h2, h3⟩ | hx)
        · exact ⟨j, by omega, h2, h3⟩
        · simp at hx; exact ⟨i, by omega, hx, h⟩
      · rintro ⟨j, h1, h2, h3⟩
        by_cases hj : j = i
        · subst hj; right; simp [h2]
        · left; exact ⟨j, by omega, h2, h3⟩
    · rename_i h
      rw [mem_sel (i := i)]
      constructor
      · rintro ⟨j, h1, h2, h3⟩; exact ⟨j, by omega, h2, h3⟩
      · rintro ⟨j, h1, h2, h3⟩
        by_cases hj : j = i
        · subst hj; exact absurd h3 h
        · exact ⟨j, by omega, h2, h3⟩

theorem sel_inc {f : Nat → Bool} : ∀ i, (sel f i).Pairwise (· < ·)
  | 0 => by simp [sel]
  | i + 1 => by
    unfold sel
    split
    · refine List.pairwise_append.2 ⟨sel_inc i, by simp, ?_⟩
      intro a ha x hx
      obtain ⟨j, h1, h2, _⟩ := mem_sel.1 ha
      simp at hx; omega
    · exact sel_inc i

theorem sel_len {f : Nat → Bool} : ∀ i, (sel f i).length ≤ i
  | 0 => by simp [sel]
  | i + 1 => by
    have := sel_len (f := f) i
    unfold sel
    split
    · simp; omega
    · omega

theorem pend_r (b : Int → Int) (n : Nat) : sel (fun j => g (st b n).p j == -2 && isR (b j)) n = (st b n).r := by
  have I := inv b n
  refine inc_ext (sel_inc n) (List.pairwise_append.1 I.inc).1 fun x => ?_
  rw [mem_sel]
  constructor
  · rintro ⟨j, h1, rfl, h3⟩
    simp at h3
    rcases (I.m2 j h1).1 h3.1 with h | h
    · exact h
    · have := isR_notC h3.2; rw [I.bc j h] at this; cases this
  · intro h
    have hx := I.ba.hr x h
    obtain ⟨j, rfl⟩ := Int.eq_ofNat_of_zero_le hx.1
    refine ⟨j, by omega, rfl, ?_⟩
    have := (I.m2 j (by omega)).2 (Or.inl h)
    simp [this, I.br j h]

theorem pend_c (b : Int → Int) (n : Nat) : sel (fun j => g (st b n).p j == -2 && isC (b j)) n = (st b n).c := by
  have I := inv b n
  refine inc_ext (sel_inc n) (List.pairwise_append.1 I.inc).2.1 fun x => ?_
  rw [mem_sel]
  constructor
  · rintro ⟨j, h1, rfl, h3⟩
    simp at h3
    rcases (I.m2 j h1).1 h3.1 with h | h
    · have := isR_notC (I.br j h); rw [h3.2] at this; cases this
    · exact h
  · intro h
    have hx := I.ba.hc x h
    obtain ⟨j, rfl⟩ := Int.eq_ofNat_of_zero_le hx.1
    refine ⟨j, by omega, rfl, ?_⟩
    have := (I.m2 j (by omega)).2 (Or.inr h)
    simp [this, I.bc j h]

end Go.Proofs.Ythhmkkclmopkhaa.Th
namespace Go.Proofs.Ythhmkkclmopkhaa.Br
open Go.RowKit Go.Proofs.Ythhmkkclmopkhaa.P Go.Proofs.YthhmkkclmopkhaaW.PrintWords Go.Proofs.YthhmkkclmopkhaaW.PrintLast Go.Proofs.YthhmkkclmopkhaaW.PrintMore Go.Proofs.Ythhmkkclmopkhaa.Th
set_option linter.unusedVariables false
set_option linter.unusedSimpArgs false
theorem Ev.succ {α : Type} {g : Nat → Option α} {r : α} (h : Ev (fun k => g (k + 1)) r) : Ev g r := by
  obtain ⟨K, hK⟩ := h
  refine ⟨K + 1, fun k hk => ?_⟩
  obtain ⟨m, rfl⟩ : ∃ m, k = m + 1 := ⟨k - 1, by omega⟩
  exact hK m (by omega)
theorem Ev.done {α : Type} {r s : α} (h : r = s) : Ev (fun _ : Nat => some r) s := h ▸ Ev.now r
theorem w64 {x : Int} (h0 : -9223372036854775808 ≤ x) (h1 : x ≤ 9223372036854775807) : wrap64 x = x := by unfold wrap64; omega

/-- The number of a symbol, -1 if it is none. -/
def sym (b : Int) : Int := if b = 40 then 0 else if b = 91 then 1 else if b = 41 then 2 else if b = 93 then 3 else if b = 97 then 4 else if b = 98 then 5 else -1

def allFrom (f : Nat → Bool) : Nat → Nat → Bool
  | 0, _ => true
  | d + 1, i => f i && allFrom f d (i + 1)

/-- Is a text a word. -/
def okw (a : ByteArray) : Bool := allFrom (fun j => decide (0 ≤ sym (bt a j))) a.size 0 && decide ((a.size : Int) ≤ 60)

theorem bs0 : bt (⟨#[40, 91, 41, 93, 97, 98]⟩ : ByteArray) 0 = 40 := by decide
theorem bs1 : bt (⟨#[40, 91, 41, 93, 97, 98]⟩ : ByteArray) 1 = 91 := by decide
theorem bs2 : bt (⟨#[40, 91, 41, 93, 97, 98]⟩ : ByteArray) 2 = 41 := by decide
theorem bs3 : bt (⟨#[40, 91, 41, 93, 97, 98]⟩ : ByteArray) 3 = 93 := by decide
theorem bs4 : bt (⟨#[40, 91, 41, 93, 97, 98]⟩ : ByteArray) 4 = 97 := by decide
theorem bs5 : bt (⟨#[40, 91, 41, 93, 97, 98]⟩ : ByteArray) 5 = 98 := by decide

theorem symbol_ev (b : Int) : Ev (fun k => spec_l01Symbol.f k b) (sym b) := by
  unfold spec_l01Symbol.f sym
  have w1 : wrap64 (0 + 1) = 1 := by unfold wrap64; omega
  have w2 : wrap64 (1 + 1) = 2 := by unfold wrap64; omega
  have w3 : wrap64 (2 + 1) = 3 := by unfold wrap64; omega
  have w4 : wrap64 (3 + 1) = 4 := by unfold wrap64; omega
  have w5 : wrap64 (4 + 1) = 5 := by unfold wrap64; omega
  have w6 : wrap64 (5 + 1) = 6 := by unfold wrap64; omega
  refine Ev.succ ?_
  simp only [spec_l01Symbol.l0, bs0]
  by_cases h0 : b = 40
  · subst h0; exact Ev.done rfl
  rw [if_neg h0]
  simp only [if_neg (Ne.symm h0), w1]
  refine Ev.succ ?_
  simp only [spec_l01Symbol.l0, bs1]
  by_cases h0 : b = 91
  · subst h0; exact Ev.done rfl
  rw [if_neg h0]
  simp only [if_neg (Ne.symm h0), w2]
  refine Ev.succ ?_
  simp only [spec_l01Symbol.l0, bs2]
  by_cases h0 : b = 41
  · subst h0; exact Ev.done rfl
  rw [if_neg h0]
  simp only [if_neg (Ne.symm h0), w3]
  refine Ev.succ ?_
  simp only [spec_l01Symbol.l0, bs3]
  by_cases h0 : b = 93
  · subst h0; exact Ev.done rfl
  rw [if_neg h0]
  simp only [if_neg (Ne.symm h0), w4]
  refine Ev.succ ?_
  simp only [spec_l01Symbol.l0, bs4]
  by_cases h0 : b = 97
  · subst h0; exact Ev.done rfl
  rw [if_neg h0]
  simp only [if_neg (Ne.symm h0), w5]
  refine Ev.succ ?_
  simp only [spec_l01Symbol.l0, bs5]
  by_cases h0 : b = 98
  · subst h0; exact Ev.done rfl
  rw [if_neg h0]
  simp only [if_neg (Ne.symm h0), w6]
  refine Ev.succ ?_
  simp only [spec_l01Symbol.l0]
  exact Ev.done rfl

theorem index_eq {b : Int} (h0 : 0 ≤ b) (h1 : b ≤ 255) : strings_IndexByte.f (⟨#[40, 91, 41, 93, 97, 98]⟩ : ByteArray) b = some (sym b) := by
  obtain ⟨n, rfl⟩ := Int.eq_ofNat_of_zero_le h0
  have hn : n < 256 := by omega
  clear h0 h1
  unfold strings_IndexByte.f
  congr 1
  have key : ∀ n : Fin 256, Lib.indexByte (⟨#[40, 91, 41, 93, 97, 98]⟩ : ByteArray).data.toList ((n.val : Int).toNat.toUInt8) = sym (n.val : Int) := by decide +kernel
  exact key ⟨n, hn⟩

theorem specOk_loop (a : ByteArray) (hn : a.size ≤ 1048576) : ∀ d i : Nat, i + d = a.size →
    Ev (fun k => spec_l01Ok.l0 k a i) (allFrom (fun j => decide (0 ≤ sym (bt a j))) d i && decide ((a.size : Int) ≤ 60)) := by
  intro d
  induction d with
  | zero =>
    intro i hi
    refine Ev.succ ?_
    simp only [spec_l01Ok.l0, if_neg (show ¬ (i : Int) < (a.size : Int) by omega), allFrom, Bool.true_and]
    exact Ev.done rfl
  | succ d ih =>
    intro i hi
    refine Ev.succ ?_
    simp only [spec_l01Ok.l0, if_pos (show (i : Int) < (a.size : Int) by omega), if_pos (show (0 : Int) ≤ (i : Int) by omega), allFrom]
    refine Ev.bind (symbol_ev _) ?_
    rw [w64 (by omega) (by omega)]
    by_cases h : sym (bt a i) < 0
    · simp only [if_pos h]
      exact Ev.done (by simp; omega)
    · simp only [if_neg h]
      have := ih (i + 1) (by omega)
      simpa [show 0 ≤ sym (bt a i) by omega] using this

theorem specOk_ev (a : ByteArray) (hn : a.size ≤ 1048576) : Ev (fun k => spec_l01Ok.f k a) (okw a) := specOk_loop a hn a.size 0 (by omega)

theorem valid_loop (a : ByteArray) (hn : a.size ≤ 1048576) : ∀ d i : Nat, i + d = a.size →
    Ev (fun k => impl_ValidWord.l0 k a a.size i) (allFrom (fun j => decide (0 ≤ sym (bt a j))) d i && decide ((a.size : Int) ≤ 60)) := by
  intro d
  induction d with
  | zero =>
    intro i hi
    refine Ev.succ ?_
    simp only [impl_ValidWord.l0, if_neg (show ¬ (i : Int) < (a.size : Int) by omega), allFrom, Bool.true_and]
    exact Ev.done rfl
  | succ d ih =>
    intro i hi
    refine Ev.succ ?_
    have hb := bt_range a i
    simp only [impl_ValidWord.l0, if_pos (show (i : Int) < (a.size : Int) by omega), if_pos (show (0 : Int) ≤ (i : Int) by omega), allFrom, index_eq hb.1 hb.2, Option.bind_some]
    rw [w64 (by omega) (by omega)]
    by_cases h : sym (bt a i) < 0
    · simp only [if_pos h]
      exact Ev.done (by simp; omega)
    · simp only [if_neg h]
      have := ih (i + 1) (by omega)
      simpa [show 0 ≤ sym (bt a i) by omega] using this

theorem valid_ev (a : ByteArray) (hn : a.size ≤ 1048576) : Ev (fun k => impl_ValidWord.f k a) (okw a) := valid_loop a hn a.size 0 (by omega)

end Go.Proofs.Ythhmkkclmopkhaa.Br
namespace Go.Proofs.Ythhmkkclmopkhaa.Br
open Go.RowKit Go.Proofs.Ythhmkkclmopkhaa.P Go.Proofs.YthhmkkclmopkhaaW.PrintWords Go.Proofs.YthhmkkclmopkhaaW.PrintLast Go.Proofs.YthhmkkclmopkhaaW.PrintMore Go.Proofs.Ythhmkkclmopkhaa.Th
set_option linter.unusedVariables false
set_option linter.unusedSimpArgs false
theorem allFrom_iff {f : Nat → Bool} : ∀ {d i : Nat}, allFrom f d i = true ↔ ∀ j, i ≤ j → j < i + d → f j = true
  | 0, i => by simp [allFrom]; omega
  | d + 1, i => by
    unfold allFrom
    rw [Bool.and_eq_true, allFrom_iff]
    constructor
    · rintro ⟨h1, h2⟩ j hj hj2
      by_cases h : j = i
      · subst h; exact h1
      · exact h2 j (by omega) (by omega)
    · intro h
      exact ⟨h i (by omega) (by omega), fun j h1 h2 => h j (by omega) (by omega)⟩

end Go.Proofs.Ythhmkkclmopkhaa.Br
namespace Go.Proofs.Ythhmkkclmopkhaa.Br
open Go.RowKit Go.Proofs.Ythhmkkclmopkhaa.P Go.Proofs.YthhmkkclmopkhaaW.PrintWords Go.Proofs.YthhmkkclmopkhaaW.PrintLast Go.Proofs.YthhmkkclmopkhaaW.PrintMore Go.Proofs.Ythhmkkclmopkhaa.Th
set_option linter.unusedVariables false
set_option linter.unusedSimpArgs false
theorem isReturn_eq (b : Int) : impl_isReturn.f b = some (isR b) := by
  unfold impl_isReturn.f isR
  by_cases h : b = 41 <;> simp [h]
theorem isCall_eq (b : Int) : impl_isCall.f b = some (isC b) := by
  unfold impl_isCall.f isC
  by_cases h : b = 40 <;> simp [h]
theorem sReturn_eq (b : Int) : spec_l01Return.f b = some (isR b) := by
  unfold spec_l01Return.f isR
  by_cases h : b = 41 <;> simp [h]
theorem sCall_eq (b : Int) : spec_l01Call.f b = some (isC b) := by
  unfold spec_l01Call.f isC
  by_cases h : b = 40 <;> simp [h]

theorem rd_last {c : List Int} (h : c ≠ []) : rd c ((c.length : Int) - 1) = top c := by
  unfold rd top
  have : 0 < c.length := List.length_pos_iff.2 h
  rw [List.getLast?_eq_getElem?, List.getD_eq_getElem?_getD, show ((c.length : Int) - 1).toNat = c.length - 1 by omega, List.getElem?_eq_getElem (by omega)]
  rfl

theorem top_nil {c : List Int} (h : c = []) : top c = -1 := by subst h; rfl
theorem take_last {c : List Int} : c.take ((c.length : Int) - 1).toNat = c.dropLast := by
  rw [List.dropLast_eq_take, show ((c.length : Int) - 1).toNat = c.length - 1 by omega]

/-- From the head of j2 on: the parent is told, a call is put on the stack, the rows grow. -/
theorem match_j2 (a : ByteArray) (hn : a.size ≤ 1048576) (i : Nat) (hi : i < a.size) (x6 : Int) (p r c d q : List Int) (R : List Int × List Int × List Int × List Int × List Int)
    (lp : p.length ≤ i) (lr : r.length ≤ i + 1) (lc : c.length ≤ i) (ld : d.length ≤ i + 1) (lq : q.length ≤ i)
    (h : if isC (bt a i) = true then Ev (fun k => impl_match.l0 k a a.size (i + 1 : Nat) (p ++ [-2]) r (c ++ [(i : Int)]) (d ++ [(c.length : Int) + 1]) (q ++ [top c])) R
         else Ev (fun k => impl_match.l0 k a a.size (i + 1 : Nat) (p ++ [x6]) r c (d ++ [(c.length : Int)]) (q ++ [top c])) R) :
    Ev (fun k => impl_match.j2 k a i i x6 a.size i p r c d q) R := by
  have j3 : Ev (fun k => impl_match.j3 k a i i x6 (top c) a.size i p r c d q) R := by
    refine Ev.succ ?_
    simp only [impl_match.j3, if_pos (show (0 : Int) ≤ (i : Int) by omega), if_pos (show (i : Int) < (a.size : Int) by omega), isCall_eq, Option.bind_some]
    have j4 : ∀ (x : Int) (c2 : List Int), c2.length ≤ i + 1 → Ev (fun k => impl_match.l0 k a a.size (i + 1 : Nat) (p ++ [x]) r c2 (d ++ [(c2.length : Int)]) (q ++ [top c])) R → Ev (fun k => impl_match.j4 k a x (top c) a.size i p r c2 d q) R := by
      intro x c2 l2 h2
      refine Ev.succ ?_
      simp only [impl_match.j4, Option.bind_some, impl_size_int64.f, List.length_cons, List.length_nil]
      rw [w64 (by omega) (by omega)]
      simp only [if_pos (show p.length + (0 + 1) < 17592186044416 by omega), if_pos (show q.length + (0 + 1) < 17592186044416 by omega), if_pos (show d.length + (0 + 1) < 17592186044416 by omega)]
      exact h2
    by_cases hC : isC (bt a i) = true
    · simp only [hC, if_true, List.length_cons, List.length_nil, if_pos (show c.length + (0 + 1) < 17592186044416 by omega)] at h ⊢
      refine j4 (-2) (c ++ [(i : Int)]) (by simp; omega) ?_
      simpa using h
    · simp only [if_neg hC] at h ⊢
      exact j4 x6 c (by omega) h
  refine Ev.succ ?_
  simp only [impl_match.j2]
  by_cases hc : c = []
  · simp only [if_neg (show ¬ (c.length : Int) > 0 by simp [hc])]
    rw [top_nil hc] at j3
    exact j3
  · have : 0 < c.length := List.length_pos_iff.2 hc
    rw [w64 (by omega) (by omega)]
    simp only [if_pos (show (c.length : Int) > 0 by omega), if_pos (show 0 ≤ (c.length : Int) - 1 by omega), if_pos (show (c.length : Int) - 1 < (c.length : Int) by omega), rd_last hc]
    exact j3

theorem match_loop (a : ByteArray) (hn : a.size ≤ 1048576) : ∀ d i : Nat, i + d = a.size →
    Ev (fun k => impl_match.l0 k a a.size i (st (bt a) i).p (st (bt a) i).r (st (bt a) i).c (st (bt a) i).d (st (bt a) i).q)
      ((st (bt a) a.size).p, (st (bt a) a.size).r, (st (bt a) a.size).c, (st (bt a) a.size).d, (st (bt a) a.size).q) := by
  intro d
  induction d with
  | zero =>
    intro i hi
    obtain rfl : i = a.size := by omega
    refine Ev.succ ?_
    simp only [impl_match.l0, if_neg (show ¬ (a.size : Int) < (a.size : Int) by omega)]
    exact Ev.now _
  | succ d ih =>
    intro i hi
    have B := basic (bt a) i
    have hnext := ih (i + 1) (by omega)
    have hst : st (bt a) (i + 1) = Th.step (st (bt a) i) i (bt a i) := rfl
    rw [hst] at hnext
    obtain ⟨lp, lq, ld, lr, lc, hc, hr⟩ := B
    generalize st (bt a) i = s at *
    refine Ev.succ ?_
    simp only [impl_match.l0, if_pos (show (i : Int) < (a.size : Int) by omega), if_pos (show (0 : Int) ≤ (i : Int) by omega), isReturn_eq, Option.bind_some]
    by_cases hR : isR (bt a i) = true
    · have hC := isR_notC hR
      simp only [hR, if_true]
      refine Ev.succ ?_
      simp only [impl_match.j1]
      by_cases he : s.c = []
      · simp only [he, List.length_nil, Int.ofNat_zero, Int.natCast_zero, BEq.rfl, if_true, Option.bind_some, List.length_cons]
        simp only [if_pos (show s.r.length + (0 + 1) < 17592186044416 by omega)]
        refine match_j2 a hn i (by omega) (-2) _ _ _ _ _ _ (by omega) (by simp; omega) (by simp) (by omega) (by omega) ?_
        rw [if_neg (by simp [hC])]
        simp only [Th.step, hR, if_true, he] at hnext
        exact hnext
      · have hl : 0 < s.c.length := List.length_pos_iff.2 he
        have ht := hc _ (top_mem he)
        have hz : ((s.c.length : Int) == 0) = false := by simp; omega
        simp only [hz, Bool.false_eq_true, if_false]
        rw [w64 (by omega) (by omega)]
        simp only [if_pos (show (0 : Int) ≤ (i : Int) by omega), if_pos (show (i : Int) < (a.size : Int) by omega), isReturn_eq, Option.bind_some, hR, if_true,
          if_pos (show 0 ≤ (s.c.length : Int) - 1 by omega), if_pos (show (s.c.length : Int) - 1 < (s.c.length : Int) by omega), rd_last he, if_pos ht.1, if_pos (show top s.c < (s.p.length : Int) by omega), if_pos (show (s.c.length : Int) - 1 ≤ (s.c.length : Int) by omega), take_last]
        refine match_j2 a hn i (by omega) _ _ _ _ _ _ _ (by simp; omega) (by omega) (by simp; omega) (by omega) (by omega) ?_
        rw [if_neg (by simp [hC])]
        simp only [Th.step, hR, if_true, if_neg he] at hnext
        exact hnext
    · have hR' : isR (bt a i) = false := by simpa using hR
      simp only [hR', Bool.false_eq_true, if_false]
      refine Ev.succ ?_
      simp only [impl_match.j1, Bool.false_eq_true, if_false, if_pos (show (0 : Int) ≤ (i : Int) by omega), if_pos (show (i : Int) < (a.size : Int) by omega), isReturn_eq, Option.bind_some, hR']
      refine match_j2 a hn i (by omega) (-1) _ _ _ _ _ _ (by omega) (by omega) (by omega) (by omega) (by omega) ?_
      by_cases hC : isC (bt a i) = true
      · rw [if_pos hC]
        simp only [Th.step, hR', Bool.false_eq_true, if_false, hC, if_true] at hnext
        exact hnext
      · rw [if_neg hC]
        simp only [Th.step, hR', Bool.false_eq_true, if_false, hC] at hnext
        exact hnext

theorem match_ev (a : ByteArray) (hn : a.size ≤ 1048576) : Ev (fun k => impl_match.f k a)
    ((st (bt a) a.size).p, (st (bt a) a.size).r, (st (bt a) a.size).c, (st (bt a) a.size).d, (st (bt a) a.size).q) := match_loop a hn a.size 0 (by omega)

end Go.Proofs.Ythhmkkclmopkhaa.Br
namespace Go.Proofs.Ythhmkkclmopkhaa.Br
open Go.RowKit Go.Proofs.Ythhmkkclmopkhaa.P Go.Proofs.YthhmkkclmopkhaaW.PrintWords Go.Proofs.YthhmkkclmopkhaaW.PrintLast Go.Proofs.YthhmkkclmopkhaaW.PrintMore Go.Proofs.Ythhmkkclmopkhaa.Th
set_option linter.unusedVariables false
set_option linter.unusedSimpArgs false
theorem partners_loop (a : ByteArray) (hn : a.size ≤ 1048576) : ∀ d i : Nat, i + d = a.size →
    Ev (fun k => spec_l01Partners.l0 k a (st (bt a) i).p (st (bt a) i).c i) (st (bt a) a.size).p := by
  intro d
  induction d with
  | zero =>
    intro i hi
    obtain rfl : i = a.size := by omega
    refine Ev.succ ?_
    simp only [spec_l01Partners.l0, if_neg (show ¬ (a.size : Int) < (a.size : Int) by omega)]
    exact Ev.now _
  | succ d ih =>
    intro i hi
    have B := basic (bt a) i
    have hnext := ih (i + 1) (by omega)
    have hst : st (bt a) (i + 1) = Th.step (st (bt a) i) i (bt a i) := rfl
    rw [hst] at hnext
    obtain ⟨lp, lq, ld, lr, lc, hc, hr⟩ := B
    generalize st (bt a) i = s at *
    refine Ev.succ ?_
    simp only [spec_l01Partners.l0, if_pos (show (i : Int) < (a.size : Int) by omega), if_pos (show (0 : Int) ≤ (i : Int) by omega), sCall_eq, sReturn_eq, Option.bind_some]
    by_cases hC : isC (bt a i) = true
    · have hR : isR (bt a i) = false := by
        cases h : isR (bt a i) with
        | false => rfl
        | true => rw [isR_notC h] at hC; cases hC
      simp only [hC, if_true]
      rw [w64 (by omega) (by omega)]
      simp only [if_pos (show s.p.length < 17592186044416 by omega), if_pos (show s.c.length < 17592186044416 by omega)]
      simp only [Th.step, hR, Bool.false_eq_true, if_false, hC, if_true] at hnext
      exact hnext
    · have hC' : isC (bt a i) = false := by simpa using hC
      simp only [hC', Bool.false_eq_true, if_false]
      by_cases hR : isR (bt a i) = true
      · simp only [hR, if_true]
        refine Ev.succ ?_
        simp only [spec_l01Partners.j1]
        by_cases he : s.c = []
        · simp only [he, List.length_nil, show decide (((0 : Nat) : Int) > 0) = false by decide, Bool.false_eq_true, if_false, if_pos (show (i : Int) < (a.size : Int) by omega), if_pos (show (0 : Int) ≤ (i : Int) by omega), sReturn_eq, Option.bind_some, hR, if_true, if_pos (show s.p.length < 17592186044416 by omega)]
          rw [w64 (by omega) (by omega)]
          simp only [Th.step, hR, if_true, he] at hnext
          exact hnext
        · have hl : 0 < s.c.length := List.length_pos_iff.2 he
          have ht := hc _ (top_mem he)
          rw [w64 (show -9223372036854775808 ≤ (s.c.length : Int) - 1 by omega) (by omega), w64 (by omega) (by omega)]
          simp only [show decide ((s.c.length : Int) > 0) = true by simp; omega, if_true, Option.bind_some,
            if_pos (show 0 ≤ (s.c.length : Int) - 1 by omega), if_pos (show (s.c.length : Int) - 1 < (s.c.length : Int) by omega), rd_last he, if_pos ht.1, if_pos (show top s.c < (s.p.length : Int) by omega), if_pos (show (s.c.length : Int) - 1 ≤ (s.c.length : Int) by omega), take_last, List.length_set, if_pos (show s.p.length < 17592186044416 by omega)]
          simp only [Th.step, hR, if_true, if_neg he] at hnext
          exact hnext
      · have hR' : isR (bt a i) = false := by simpa using hR
        simp only [hR', Bool.false_eq_true, if_false]
        refine Ev.succ ?_
        simp only [spec_l01Partners.j1, Bool.false_eq_true, if_false, if_pos (show (i : Int) < (a.size : Int) by omega), if_pos (show (0 : Int) ≤ (i : Int) by omega), sReturn_eq, Option.bind_some, hR', if_pos (show s.p.length < 17592186044416 by omega)]
        rw [w64 (by omega) (by omega)]
        simp only [Th.step, hR', Bool.false_eq_true, if_false, hC'] at hnext
        exact hnext

theorem partners_ev (a : ByteArray) (hn : a.size ≤ 1048576) : Ev (fun k => spec_l01Partners.f k a) (st (bt a) a.size).p := partners_loop a hn a.size 0 (by omega)

theorem g_rd (l : List Int) (i : Nat) : rd l i = g l i := by unfold rd g; simp

theorem pending_loop (a : ByteArray) (hn : a.size ≤ 1048576) (p : List Int) (hp : p.length = a.size) : ∀ d i : Nat, i + d = a.size →
    Ev (fun k => spec_l01Pending.l0 k a p ((sel (fun j => g p j == -2 && isR (bt a j)) i).length : Int) ((sel (fun j => g p j == -2 && isC (bt a j)) i).length : Int) i)
      (((sel (fun j => g p j == -2 && isR (bt a j)) a.size).length : Int), ((sel (fun j => g p j == -2 && isC (bt a j)) a.size).length : Int)) := by
  intro d
  induction d with
  | zero =>
    intro i hi
    obtain rfl : i = a.size := by omega
    refine Ev.succ ?_
    simp only [spec_l01Pending.l0, if_neg (show ¬ (a.size : Int) < (a.size : Int) by omega)]
    exact Ev.now _
  | succ d ih =>
    intro i hi
    have hnext := ih (i + 1) (by omega)
    have e1 : ((sel (fun j => g p j == -2 && isR (bt a j)) (i + 1)).length : Int) = (sel (fun j => g p j == -2 && isR (bt a j)) i).length + (if g p i = -2 ∧ isR (bt a i) = true then 1 else 0) := by
      rw [sel]; by_cases h1 : g p i = -2 <;> by_cases h2 : isR (bt a i) = true <;> simp [h1, h2]
    have e2 : ((sel (fun j => g p j == -2 && isC (bt a j)) (i + 1)).length : Int) = (sel (fun j => g p j == -2 && isC (bt a j)) i).length + (if g p i = -2 ∧ isC (bt a i) = true then 1 else 0) := by
      rw [sel]; by_cases h1 : g p i = -2 <;> by_cases h2 : isC (bt a i) = true <;> simp [h1, h2]
    have l1 := sel_len (f := fun j => g p j == -2 && isR (bt a j)) i
    have l2 := sel_len (f := fun j => g p j == -2 && isC (bt a j)) i
    rw [e1, e2] at hnext
    generalize ((sel (fun j => g p j == -2 && isR (bt a j)) a.size).length : Int) = R1 at *
    generalize ((sel (fun j => g p j == -2 && isC (bt a j)) a.size).length : Int) = R2 at *
    generalize (sel (fun j => g p j == -2 && isR (bt a j)) i).length = x at *
    generalize (sel (fun j => g p j == -2 && isC (bt a j)) i).length = y at *
    clear e1 e2
    have b1 : (i : Int) < (a.size : Int) := by omega
    have b2 : (0 : Int) ≤ (i : Int) := by omega
    have b3 : (i : Int) < (p.length : Int) := by omega
    have f1 : wrap64 ((x : Int) + 1) = (x : Int) + 1 := w64 (by omega) (by omega)
    have f2 : wrap64 ((y : Int) + 1) = (y : Int) + 1 := w64 (by omega) (by omega)
    have f3 : wrap64 ((i : Int) + 1) = (i : Int) + 1 := w64 (by omega) (by omega)
    refine Ev.succ ?_
    simp only [spec_l01Pending.l0, if_pos b1, if_pos b2, if_pos b3, g_rd, sReturn_eq, Option.bind_some]
    have fin : ∀ z : Bool, z = (g p i == -2 && isR (bt a i)) → Ev (fun k => spec_l01Pending.j1 k a p x y i z) (R1, R2) := by
      intro z hz
      refine Ev.succ ?_
      simp only [spec_l01Pending.j1, if_pos b1, if_pos b2, if_pos b3, g_rd, sCall_eq, Option.bind_some, f1, f2, f3]
      subst hz
      by_cases h1 : g p i = -2 <;> by_cases h2 : isR (bt a i) = true <;> by_cases h3 : isC (bt a i) = true <;>
        simp only [h1, h2, h3, and_self, if_true, if_false, and_true, true_and, and_false, false_and, Int.add_zero, Bool.false_eq_true, BEq.rfl, Bool.true_and, Bool.and_true, Bool.and_false, Bool.false_and] at hnext ⊢ <;> first | exact hnext | (simp only [beq_eq_false_iff_ne.2 h1, Bool.false_and, Bool.false_eq_true, if_false]; exact hnext)
    by_cases h1 : g p i = -2
    · simp only [h1, if_true]
      exact fin _ (by simp [h1])
    · simp only [h1, if_false]
      exact fin _ (by simp [h1])

theorem pending_ev (a : ByteArray) (hn : a.size ≤ 1048576) : Ev (fun k => spec_l01Pending.f k a) (((st (bt a) a.size).r.length : Int), ((st (bt a) a.size).c.length : Int)) := by
  unfold spec_l01Pending.f
  refine Ev.bind (partners_ev a hn) ?_
  have := pending_loop a hn (st (bt a) a.size).p (basic (bt a) a.size).lp a.size 0 (by omega)
  rw [pend_r, pend_c] at this
  exact this

end Go.Proofs.Ythhmkkclmopkhaa.Br
namespace Go.Proofs.Ythhmkkclmopkhaa.Br
open Go.RowKit Go.Proofs.Ythhmkkclmopkhaa.P Go.Proofs.YthhmkkclmopkhaaW.PrintWords Go.Proofs.YthhmkkclmopkhaaW.PrintLast Go.Proofs.YthhmkkclmopkhaaW.PrintMore Go.Proofs.Ythhmkkclmopkhaa.Th
set_option linter.unusedVariables false
set_option linter.unusedSimpArgs false
/-- Is a word matched. -/
def mtc (a : ByteArray) : Bool := ((((st (bt a) a.size).r.length : Int) + ((st (bt a) a.size).c.length : Int)) == 0)
theorem sMatched_ev (a : ByteArray) (hn : a.size ≤ 1048576) : Ev (fun k => spec_l01Matched.f k a) (mtc a) := by
  unfold spec_l01Matched.f
  refine Ev.bind (pending_ev a hn) ?_
  have B := basic (bt a) a.size
  have h1 := B.lr
  have h2 := B.lc
  simp only
  rw [w64 (by omega) (by omega)]
  exact Ev.now _
theorem iMatched_ev (a : ByteArray) (hn : a.size ≤ 1048576) : Ev (fun k => impl_isMatched.f k a) (mtc a) := by
  unfold impl_isMatched.f
  refine Ev.bind (match_ev a hn) ?_
  have B := basic (bt a) a.size
  have h1 := B.lr
  have h2 := B.lc
  simp only
  rw [w64 (by omega) (by omega)]
  exact Ev.now _
end Go.Proofs.Ythhmkkclmopkhaa.Br
namespace Go.Proofs.Ythhmkkclmopkhaa.Br
open Go.RowKit Go.Proofs.Ythhmkkclmopkhaa.P Go.Proofs.YthhmkkclmopkhaaW.PrintWords Go.Proofs.YthhmkkclmopkhaaW.PrintLast Go.Proofs.YthhmkkclmopkhaaW.PrintMore Go.Proofs.Ythhmkkclmopkhaa.Th
set_option linter.unusedVariables false
set_option linter.unusedSimpArgs false
theorem down {P : Nat → Prop} (n : Nat) (h0 : P n) (h1 : ∀ i, i < n → P (i + 1) → P i) : ∀ i, i ≤ n → P i := by
  have key : ∀ d i, i + d = n → P i := by
    intro d
    induction d with
    | zero => intro i hi; obtain rfl : i = n := by omega
              exact h0
    | succ d ih => intro i hi; exact h1 i (by omega) (ih (i + 1) (by omega))
  intro i hi
  exact key (n - i) i (by omega)
theorem up1 (i : Nat) (h : i < 9223372036854775807) : wrap64 ((i : Int) + 1) = ((i + 1 : Nat) : Int) := by
  rw [w64 (by omega) (by omega)]; rfl
theorem i0 (i : Nat) : 0 ≤ (i : Int) := by omega
end Go.Proofs.Ythhmkkclmopkhaa.Br
namespace Go.Proofs.Ythhmkkclmopkhaa.Br
open Go.RowKit Go.Proofs.Ythhmkkclmopkhaa.P Go.Proofs.YthhmkkclmopkhaaW.PrintWords Go.Proofs.YthhmkkclmopkhaaW.PrintLast Go.Proofs.YthhmkkclmopkhaaW.PrintMore Go.Proofs.Ythhmkkclmopkhaa.Th
set_option linter.unusedVariables false
set_option linter.unusedSimpArgs false
/-- How many words of n symbols close d open calls, for depths up to L. -/
def wy (L : Nat) : Nat → Nat → Int
  | 0, d => if d = 0 then 1 else 0
  | n + 1, d => if d ≤ L then 2 * wy L n d + 2 * wy L n (d + 1) + (if d = 0 then 0 else 2 * wy L n (d - 1)) else 0
theorem wy_range (L : Nat) : ∀ n d, 0 ≤ wy L n d ∧ wy L n d ≤ 6 ^ n
  | 0, d => by unfold wy; split <;> simp
  | n + 1, d => by
    have h0 := wy_range L n d
    have h1 := wy_range L n (d + 1)
    have h2 := wy_range L n (d - 1)
    have e : (6 : Int) ^ (n + 1) = 6 * 6 ^ n := by rw [Int.pow_succ]; omega
    rw [e]
    unfold wy
    generalize (6 : Int) ^ n = B at *
    split
    · split <;> omega
    · omega
theorem pow_le (n : Nat) (h : n ≤ 20) : (6 : Int) ^ n ≤ 3656158440062976 := by
  have h1 : (6 : Nat) ^ n ≤ 6 ^ 20 := Nat.pow_le_pow_right (by decide) h
  have h2 : (6 : Nat) ^ 20 = 3656158440062976 := by decide
  have h3 : ((6 ^ n : Nat) : Int) = (6 : Int) ^ n := by push_cast; rfl
  omega
theorem wy_small (L n d : Nat) (h : n ≤ 20) : 0 ≤ wy L n d ∧ wy L n d ≤ 3656158440062976 := by
  have := wy_range L n d
  have := pow_le n h
  omega
def rowW (L n : Nat) : List Int := (List.range (L + 2)).map (wy L n)
def prow (L n d : Nat) : List Int := (List.range (L + 2)).map (fun e => if e < d then wy L n e else 0)
def tab (L m : Nat) : List (List Int) := (List.range m).map (rowW L)
theorem rowW_len (L n : Nat) : (rowW L n).length = L + 2 := by simp [rowW]
theorem prow_len (L n d : Nat) : (prow L n d).length = L + 2 := by simp [prow]
theorem tab_len (L m : Nat) : (tab L m).length = m := by simp [tab]
theorem rd_range (f : Nat → Int) (N d : Nat) (h : d < N) : rd ((List.range N).map f) d = f d := by
  unfold rd
  rw [Int.toNat_natCast, List.getD_eq_getElem?_getD, List.getElem?_map, List.getElem?_range h]
  rfl
theorem rdL_tab (L m n : Nat) (h : n < m) : rd_L1 (tab L m) n = rowW L n := by
  unfold rd_L1 tab
  rw [Int.toNat_natCast, List.getD_eq_getElem?_getD, List.getElem?_map, List.getElem?_range h]
  rfl
theorem prow_zero (L n : Nat) : prow L n 0 = List.replicate (L + 2) 0 := by
  unfold prow
  apply List.ext_getElem
  · simp
  · intro i h1 h2; simp
theorem prow_set (L n d : Nat) (h : d ≤ L) : (prow L n d).set d (wy L n d) = prow L n (d + 1) := by
  unfold prow
  apply List.ext_getElem
  · simp
  · intro i h1 h2
    rw [List.getElem_set]
    simp only [List.getElem_map, List.getElem_range]
    by_cases e : d = i
    · subst e; simp
    · rw [if_neg e]
      by_cases e2 : i < d
      · rw [if_pos e2, if_pos (by omega)]
      · rw [if_neg e2, if_neg (by omega)]
theorem prow_all (L n : Nat) (hn : 1 ≤ n) : prow L n (L + 1) = rowW L n := by
  unfold prow rowW
  apply List.ext_getElem
  · simp
  · intro i h1 h2
    simp only [List.getElem_map, List.getElem_range]
    by_cases e : i < L + 1
    · rw [if_pos e]
    · rw [if_neg e]
      obtain ⟨m, rfl⟩ : ∃ m, n = m + 1 := ⟨n - 1, by omega⟩
      unfold wy
      rw [if_neg (by omega)]
theorem row_first (L : Nat) : (List.replicate (L + 2) (0 : Int)).set 0 1 = rowW L 0 := by
  unfold rowW
  apply List.ext_getElem
  · simp
  · intro i h1 h2
    rw [List.getElem_set]
    simp only [List.getElem_map, List.getElem_range, List.getElem_replicate]
    unfold wy
    by_cases e : i = 0
    · subst e; simp
    · rw [if_neg (fun h => e h.symm), if_neg e]
theorem tab_succ (L m : Nat) : tab L (m + 1) = tab L m ++ [rowW L m] := by
  unfold tab
  rw [List.range_succ, List.map_append]
  rfl

theorem ways_l1 (L : Nat) (hL : L ≤ 20) (n : Nat) (hn : n + 1 ≤ L) (R : List (List Int)) (hR : Ev (fun k => spec_l01Ways.l0 k L (tab L (n + 2)) ((n + 2 : Nat) : Int)) R) :
    ∀ d, d ≤ L + 1 → Ev (fun k => spec_l01Ways.l1 k L (tab L (n + 1)) ((n + 1 : Nat) : Int) (prow L (n + 1) d) d) R := by
  have hw : ∀ d, 0 ≤ wy L n d ∧ wy L n d ≤ 3656158440062976 := fun d => wy_small L n d (by omega)
  have b0 : ((n + 1 : Nat) : Int) > 0 := by omega
  have b1 : (n : Int) < ((tab L (n + 1)).length : Int) := by rw [tab_len]; omega
  have b2 : (tab L (n + 1)).length < 5864062014805 := by rw [tab_len]; omega
  have b3 : ¬ ((L + 1 : Nat) : Int) ≤ (L : Int) := by omega
  have hall := prow_all L (n + 1) (by omega)
  have b4 : n < n + 1 := by omega
  have f1 : wrap64 (((n + 1 : Nat) : Int) - 1) = (n : Int) := by rw [w64 (by omega) (by omega)]; push_cast; omega
  have f2 : wrap64 (((n + 1 : Nat) : Int) + 1) = ((n + 2 : Nat) : Int) := by rw [w64 (by omega) (by omega)]; push_cast; omega
  refine down (L + 1) ?_ ?_
  · refine Ev.succ ?_
    simp only [spec_l01Ways.l1, if_pos b0, decide_eq_false b3]
    refine Ev.succ ?_
    simp only [spec_l01Ways.j3, Bool.false_eq_true, if_false, if_pos b2, f2]
    rw [hall, ← tab_succ]
    exact hR
  · intro d hd ih
    have q0 := hw d
    have q1 := hw (d + 1)
    have q2 := hw (d - 1)
    have hdL : d ≤ L := by clear f1 f2; omega
    have c0 : (d : Int) ≤ (L : Int) := by clear f1 f2; omega
    have c1 : d < L + 2 := by clear f1 f2; omega
    have c2 : d + 1 < L + 2 := by clear f1 f2; omega
    have c3 : d - 1 < L + 2 := by clear f1 f2; omega
    have e2 : rd (rowW L n) d = wy L n d := rd_range _ _ _ c1
    have e3 : rd (rowW L n) ((d + 1 : Nat) : Int) = wy L n (d + 1) := rd_range _ _ _ c2
    have e4 : rd (rowW L n) ((d - 1 : Nat) : Int) = wy L n (d - 1) := rd_range _ _ _ c3
    have g1 : (d : Int) < ((rowW L n).length : Int) := by rw [rowW_len]; exact_mod_cast c1
    have g2 : ((d + 1 : Nat) : Int) < ((rowW L n).length : Int) := by rw [rowW_len]; exact_mod_cast c2
    have g3 : (d : Int) < ((prow L (n + 1) d).length : Int) := by rw [prow_len]; exact_mod_cast c1
    have g4 : ((d - 1 : Nat) : Int) < ((rowW L n).length : Int) := by rw [rowW_len]; exact_mod_cast c3
    have e5 : ∀ v : Int, rd ((prow L (n + 1) d).set d v) d = v := by
      intro v
      unfold rd
      rw [Int.toNat_natCast, List.getD_eq_getElem?_getD, List.getElem?_set_self (by rw [prow_len]; exact c1)]
      rfl
    have ed : wy L (n + 1) d = 2 * wy L n d + 2 * wy L n (d + 1) + (if d = 0 then 0 else 2 * wy L n (d - 1)) := by
      conv => lhs; unfold wy
      rw [if_pos hdL]
    have hset := prow_set L (n + 1) d hdL
    have u1 := up1 d (by clear f1 f2; omega)
    generalize wy L n d = A at *
    generalize wy L n (d + 1) = B at *
    generalize wy L n (d - 1) = C at *
    have f3 : wrap64 (2 * A) = 2 * A := w64 (by clear f1 f2 u1; omega) (by clear f1 f2 u1; omega)
    have f4 : wrap64 (2 * B) = 2 * B := w64 (by clear f1 f2 u1 f3; omega) (by clear f1 f2 u1 f3; omega)
    have f5 : wrap64 (2 * A + 2 * B) = 2 * A + 2 * B := w64 (by clear f1 f2 u1 f3 f4; omega) (by clear f1 f2 u1 f3 f4; omega)
    have f7 : wrap64 (2 * C) = 2 * C := w64 (by clear f1 f2 u1 f3 f4 f5; omega) (by clear f1 f2 u1 f3 f4 f5; omega)
    have f8 : wrap64 (2 * A + 2 * B + 2 * C) = 2 * A + 2 * B + 2 * C := w64 (by clear f1 f2 u1 f3 f4 f5 f7; omega) (by clear f1 f2 u1 f3 f4 f5 f7; omega)
    refine Ev.succ ?_
    simp only [spec_l01Ways.l1, if_pos b0, decide_eq_true c0]
    refine Ev.succ ?_
    simp only [spec_l01Ways.j3, if_true, f1, if_pos (i0 n), if_pos b1, if_pos (i0 d), rdL_tab L (n + 1) n b4, if_pos g1, u1, if_pos (i0 (d + 1)), if_pos g2, if_pos g3, e2, e3, f3, f4, f5, Option.bind_some, Int.toNat_natCast]
    by_cases d0 : d = 0
    · subst d0
      rw [if_pos rfl, Int.add_zero] at ed
      simp only [Int.natCast_zero, show ¬ ((0 : Int) > 0) by decide, if_false]
      rw [ed] at hset
      rw [hset]
      exact ih
    · rw [if_neg d0] at ed
      have h1 : (d : Int) > 0 := by clear f1 f2 u1 f3 f4 f5 f7 f8; omega
      have f6 : wrap64 ((d : Int) - 1) = ((d - 1 : Nat) : Int) := by clear f1 f2 u1 f3 f4 f5 f7 f8; rw [w64 (by omega) (by omega)]; omega
      simp only [if_pos h1, f6, if_pos (i0 (d - 1)), if_pos g4, e4, f7, e5, f8, List.set_set]
      rw [ed] at hset
      rw [hset]
      exact ih
theorem ways_ev (L : Nat) (hL : L ≤ 20) : Ev (fun k => spec_l01Ways.f k L) (tab L (L + 1)) := by
  have f0 : wrap64 ((L : Int) + 2) = ((L + 2 : Nat) : Int) := by rw [w64 (by omega) (by omega)]; push_cast; rfl
  have loop : ∀ n, n ≤ L + 1 → Ev (fun k => spec_l01Ways.l0 k L (tab L n) n) (tab L (L + 1)) := by
    refine down (L + 1) ?_ ?_
    · refine Ev.succ ?_
      simp only [spec_l01Ways.l0, if_neg (show ¬ ((L + 1 : Nat) : Int) ≤ (L : Int) by omega)]
      exact Ev.now _
    · intro n hn ih
      refine Ev.succ ?_
      simp only [spec_l01Ways.l0, if_pos (show (n : Int) ≤ (L : Int) by omega), f0, if_pos (i0 (L + 2)), Int.toNat_natCast, if_pos (show L + 2 ≤ 35184372088832 by omega), Option.bind_some]
      by_cases n0 : n = 0
      · subst n0
        simp only [Int.natCast_zero, if_true, List.length_replicate, if_pos (show (0 : Int) < ((L + 2 : Nat) : Int) by omega), Int.toNat_zero]
        rw [row_first]
        refine Ev.succ ?_
        simp only [spec_l01Ways.j1]
        refine Ev.succ ?_
        simp only [spec_l01Ways.l1, show ¬ ((0 : Int) > 0) by decide, if_false]
        refine Ev.succ ?_
        have u0 : wrap64 ((0 : Int) + 1) = ((0 + 1 : Nat) : Int) := by rw [w64 (by decide) (by decide)]; rfl
        simp only [spec_l01Ways.j3, Bool.false_eq_true, if_false, if_pos (show (tab L 0).length < 5864062014805 by rw [tab_len]; omega), u0]
        rw [← tab_succ]
        exact ih
      · obtain ⟨m, rfl⟩ : ∃ m, n = m + 1 := ⟨n - 1, by omega⟩
        simp only [if_neg (show ¬ ((m + 1 : Nat) : Int) = 0 by omega)]
        refine Ev.succ ?_
        simp only [spec_l01Ways.j1]
        have := ways_l1 L hL m (by omega) _ ih 0 (by omega)
        rw [prow_zero] at this
        exact this
  unfold spec_l01Ways.f
  exact loop 0 (by omega)

/-- A list of symbols of which all returns match, with d open calls. -/
def gl (l : List Int) : Int → Int := fun j => g l j.toNat
end Go.Proofs.Ythhmkkclmopkhaa.Br
namespace Go.Proofs.Ythhmkkclmopkhaa.Br
open Go.RowKit Go.Proofs.Ythhmkkclmopkhaa.P Go.Proofs.YthhmkkclmopkhaaW.PrintWords Go.Proofs.YthhmkkclmopkhaaW.PrintLast Go.Proofs.YthhmkkclmopkhaaW.PrintMore Go.Proofs.Ythhmkkclmopkhaa.Th
set_option linter.unusedVariables false
set_option linter.unusedSimpArgs false
theorem tw_out : ∀ n d, n < d → tw n d = 0
  | 0, d, h => by unfold tw; rw [if_neg (by omega)]
  | n + 1, d, h => by
    unfold tw
    rw [tw_out n (d + 1) (by omega), tw_out n d (by omega), if_neg (by omega), tw_out n (d - 1) (by omega)]
    rfl
theorem wy_tw (L : Nat) : ∀ n d, n ≤ L → wy L n d = tw n d
  | 0, d, _ => by unfold wy tw; rfl
  | n + 1, d, h => by
    by_cases hd : d ≤ L
    · unfold wy tw
      rw [if_pos hd, wy_tw L n d (by omega), wy_tw L n (d + 1) (by omega), wy_tw L n (d - 1) (by omega)]
      omega
    · rw [tw_out (n + 1) d (by omega)]
      unfold wy
      rw [if_neg hd]
/-- The depth behind a symbol, whatever the depth. -/
def nxI (d : Int) (c : Int) : Int := if isC c = true then d + 1 else if isR c = true then d - 1 else d
theorem nxI_near (d c : Int) : d - 1 ≤ nxI d c ∧ nxI d c ≤ d + 1 := by
  unfold nxI
  split
  · omega
  · split <;> omega
theorem nextI_eq (d : Int) (h0 : -100 ≤ d) (h1 : d ≤ 100) (c : Int) : spec_l01Next.f d c = some (nxI d c) := by
  have f1 : wrap64 (d + 1) = d + 1 := w64 (by omega) (by omega)
  have f2 : wrap64 (d - 1) = d - 1 := w64 (by omega) (by omega)
  unfold spec_l01Next.f nxI
  simp only [sCall_eq, sReturn_eq, Option.bind_some, f1, f2]
  split
  · rfl
  · split <;> rfl
theorem behind_eq (d : Int) (h0 : -100 ≤ d) (h1 : d ≤ 100) (c : Int) : impl_depthBehind.f d c = some (nxI d c) := by
  have f1 : wrap64 (d + 1) = d + 1 := w64 (by omega) (by omega)
  have f2 : wrap64 (d - 1) = d - 1 := w64 (by omega) (by omega)
  unfold impl_depthBehind.f nxI
  simp only [isCall_eq, isReturn_eq, Option.bind_some, f1, f2]
  split
  · rfl
  · split <;> rfl
/-- What the words of n symbols with e open calls are in number; none if e is no depth. -/
def own (L n : Nat) (e : Int) : Int := if e < 0 then 0 else wy L n e.toNat
theorem ways_eq (L n : Nat) (b : Bool) (e : Int) (hn : n ≤ L) (he : (n : Int) + e ≤ 20) : impl_ways.f b n e = some (own L n e) := by
  unfold impl_ways.f waysF own
  by_cases h : e < 0
  · rw [if_pos h, if_pos h]
  · rw [if_neg h, if_neg h]
    obtain ⟨d, rfl⟩ := Int.eq_ofNat_of_zero_le (show 0 ≤ e by omega)
    rw [Int.toNat_natCast, Int.toNat_natCast, wy_tw L n d hn]
    by_cases h2 : (n : Int) < (d : Int)
    · rw [if_pos h2, tw_out n d (by omega)]
    · rw [if_neg h2, if_pos he]
theorem own_cell (L n : Nat) (e : Int) (h0 : ¬ e < 0) (h1 : e ≤ (L : Int) + 1) (hn : n ≤ L) : rd (rd_L1 (tab L (L + 1)) n) e = own L n e ∧ e < ((rd_L1 (tab L (L + 1)) n).length : Int) := by
  obtain ⟨d, rfl⟩ := Int.eq_ofNat_of_zero_le (show 0 ≤ e by omega)
  rw [rdL_tab L (L + 1) n (by omega), rowW_len]
  refine ⟨?_, by omega⟩
  unfold own
  rw [if_neg h0, Int.toNat_natCast]
  exact rd_range _ _ _ (by omega)
abbrev sy : ByteArray := ⟨#[40, 91, 41, 93, 97, 98]⟩
/-- The number of a symbol: where it stands first. -/
theorem sym_first (b : Int) (h : 0 ≤ sym b) : ∃ s : Nat, s < 6 ∧ bt sy s = b ∧ ∀ x : Nat, x < s → ¬ bt sy x = b := by
  unfold sym at h
  by_cases h0 : b = 40
  · subst h0; exact ⟨0, by decide, by decide, by decide⟩
  rw [if_neg h0] at h
  by_cases h0 : b = 91
  · subst h0; exact ⟨1, by decide, by decide, by decide⟩
  rw [if_neg h0] at h
  by_cases h0 : b = 41
  · subst h0; exact ⟨2, by decide, by decide, by decide⟩
  rw [if_neg h0] at h
  by_cases h0 : b = 93
  · subst h0; exact ⟨3, by decide, by decide, by decide⟩
  rw [if_neg h0] at h
  by_cases h0 : b = 97
  · subst h0; exact ⟨4, by decide, by decide, by decide⟩
  rw [if_neg h0] at h
  by_cases h0 : b = 98
  · subst h0; exact ⟨5, by decide, by decide, by decide⟩
  rw [if_neg h0] at h
  omega
theorem wrap_in (x : Int) : -9223372036854775808 ≤ wrap64 x ∧ wrap64 x ≤ 9223372036854775807 := by unfold wrap64; omega
theorem rank_both (a : ByteArray) (L : Nat) (hs : a.size = L) (hL : L ≤ 20) (hok : ∀ j : Nat, j < L → 0 ≤ sym (bt a j)) (b : Bool) : ∀ i, i ≤ L → ∀ (r d : Int), -(i : Int) ≤ d → d ≤ i → -9223372036854775808 ≤ r → r ≤ 9223372036854775807 →
    ∃ R, Ev (fun k => spec_RankMatched.l0 k a (tab L (L + 1)) r d i) (R, 0) ∧ Ev (fun k => impl_RankMatched.l0 k a r d (a.size : Int) i b) (R, 0) := by
  refine down L ?_ ?_
  · intro r d _ _ _ _
    have h : ¬ (L : Int) < (a.size : Int) := by omega
    refine ⟨r, Ev.succ ?_, Ev.succ ?_⟩
    · simp only [spec_RankMatched.l0, if_neg h]; exact Ev.now _
    · simp only [impl_RankMatched.l0, if_neg h]; exact Ev.now _
  · intro i hi ih r d hd0 hd1 hr0 hr1
    obtain ⟨s, hs6, hse, hsf⟩ := sym_first _ (hok i hi)
    have hi1 : (i : Int) < (a.size : Int) := by omega
    have d0 : -100 ≤ d := by omega
    have d1 : d ≤ 100 := by omega
    have inner : ∀ x, x ≤ s → ∀ r : Int, -9223372036854775808 ≤ r → r ≤ 9223372036854775807 → ∃ R, Ev (fun k => spec_RankMatched.l1 k a (tab L (L + 1)) r d i x) (R, 0) ∧ Ev (fun k => impl_RankMatched.l1 k a r d i x (a.size : Int) i b) (R, 0) := by
      refine down s ?_ ?_
      · intro r hr0 hr1
        have hn := nxI_near d (bt a i)
        obtain ⟨R, r1, r2⟩ := ih r (nxI d (bt a i)) (by push_cast; omega) (by push_cast; omega) hr0 hr1
        have x6 : (s : Int) < 6 := by omega
        refine ⟨R, Ev.succ ?_, Ev.succ ?_⟩
        · simp only [spec_RankMatched.l1, if_pos (i0 s), if_pos x6, if_pos (i0 i), if_pos hi1, if_pos hse, nextI_eq d d0 d1, Option.bind_some, up1 i (by omega)]
          exact r1
        · simp only [impl_RankMatched.l1, if_pos (i0 s), if_pos x6, if_pos (i0 i), if_pos hi1, if_pos hse, behind_eq d d0 d1, Option.bind_some, up1 i (by omega)]
          exact r2
      · intro x hx ihx r hr0 hr1
        have x6 : (x : Int) < 6 := by omega
        have hne := hsf x hx
        have hn := nxI_near d (bt sy x)
        obtain ⟨n, hnn⟩ : ∃ n : Nat, n = L - i - 1 := ⟨_, rfl⟩
        have hnL : n ≤ L := by omega
        have hw := ways_eq L n b (nxI d (bt sy x)) hnL (by omega)
        have hx1 := up1 x (by omega)
        have t1 : (n : Int) < ((tab L (L + 1)).length : Int) := by clear hx1; rw [tab_len]; omega
        have g1 : wrap64 ((a.size : Int) - (i : Int)) = (a.size : Int) - i := by clear hx1; exact w64 (by omega) (by omega)
        have g2 : wrap64 ((a.size : Int) - i - 1) = (n : Int) := by clear hx1 g1; rw [w64 (by omega) (by omega)]; omega
        have g3 : wrap64 ((a.size : Int) - 1) = (a.size : Int) - 1 := by clear hx1 g1 g2; exact w64 (by omega) (by omega)
        have g4 : wrap64 ((a.size : Int) - 1 - i) = (n : Int) := by clear hx1 g1 g2 g3; rw [w64 (by omega) (by omega)]; omega
        have hwr := wrap_in (r + own L n (nxI d (bt sy x)))
        obtain ⟨R, r1, r2⟩ := ihx (wrap64 (r + own L n (nxI d (bt sy x)))) hwr.1 hwr.2
        refine ⟨R, Ev.succ ?_, Ev.succ ?_⟩
        · by_cases hneg : nxI d (bt sy x) ≥ 0
          · have hq0 : ¬ nxI d (bt sy x) < 0 := by clear hx1 g1 g2 g3 g4 hwr r1 r2; omega
            have hq1 : nxI d (bt sy x) ≤ (L : Int) + 1 := by clear hx1 g1 g2 g3 g4 hwr r1 r2; omega
            obtain ⟨c1, c2⟩ := own_cell L n _ hq0 hq1 hnL
            simp only [spec_RankMatched.l1, if_pos (i0 x), if_pos x6, if_pos (i0 i), if_pos hi1, if_neg hne, nextI_eq d d0 d1, Option.bind_some, if_pos hneg, g1, g2, if_pos (i0 n), if_pos t1, if_pos (show 0 ≤ nxI d (bt sy x) from hneg), if_pos c2, c1, hx1]
            exact r1
          · have hlt : nxI d (bt sy x) < 0 := by clear hx1 g1 g2 g3 g4 hwr r1 r2; omega
            have o0 : own L n (nxI d (bt sy x)) = 0 := by unfold own; rw [if_pos hlt]
            rw [o0, Int.add_zero, w64 hr0 hr1] at r1
            simp only [spec_RankMatched.l1, if_pos (i0 x), if_pos x6, if_pos (i0 i), if_pos hi1, if_neg hne, nextI_eq d d0 d1, Option.bind_some, if_neg hneg, hx1]
            exact r1
        · simp only [impl_RankMatched.l1, if_pos (i0 x), if_pos x6, if_pos (i0 i), if_pos hi1, if_neg hne, behind_eq d d0 d1, Option.bind_some, g3, g4, hw, hx1]
          exact r2
    obtain ⟨R, r1, r2⟩ := inner 0 (by omega) r hr0 hr1
    refine ⟨R, Ev.succ ?_, Ev.succ ?_⟩
    · simp only [spec_RankMatched.l0, if_pos hi1]; exact r1
    · simp only [impl_RankMatched.l0, if_pos hi1]; exact r2
theorem rankMatched_both (a : ByteArray) (hn : a.size ≤ 1048576) : ∃ R, Ev (fun k => spec_RankMatched.f k a) R ∧ Ev (fun k => impl_RankMatched.f k a) R := by
  unfold spec_RankMatched.f impl_RankMatched.f
  by_cases h : okw a = true
  · by_cases h2 : (a.size : Int) > 20
    · refine ⟨(0, 3), Ev.bind (specOk_ev a hn) ?_, Ev.bind (valid_ev a hn) ?_⟩
      · simp only [if_pos h, if_pos h2]; exact Ev.now _
      · simp only [if_pos h, if_pos h2]; exact Ev.now _
    · by_cases h3 : mtc a = true
      · have hj : ∀ j : Nat, j < a.size → 0 ≤ sym (bt a j) := by
          unfold okw at h
          rw [Bool.and_eq_true] at h
          intro j hj
          have := (allFrom_iff.1 h.1) j (Nat.zero_le _) (by omega)
          exact of_decide_eq_true this
        obtain ⟨R, r1, r2⟩ := rank_both a a.size rfl (by omega) hj true 0 (by omega) 0 0 (by omega) (by omega) (by decide) (by decide)
        refine ⟨(R, 0), Ev.bind (specOk_ev a hn) ?_, Ev.bind (valid_ev a hn) ?_⟩
        · simp only [if_pos h, if_neg h2]
          refine Ev.bind (sMatched_ev a hn) ?_
          simp only [if_pos h3]
          exact Ev.bind (ways_ev a.size (by omega)) r1
        · simp only [if_pos h, if_neg h2]
          refine Ev.bind (iMatched_ev a hn) ?_
          simp only [if_pos h3, impl_endings.f, Option.bind_some]
          exact r2
      · refine ⟨(0, 4), Ev.bind (specOk_ev a hn) ?_, Ev.bind (valid_ev a hn) ?_⟩
        · simp only [if_pos h, if_neg h2]
          refine Ev.bind (sMatched_ev a hn) ?_
          simp only [if_neg h3]; exact Ev.now _
        · simp only [if_pos h, if_neg h2]
          refine Ev.bind (iMatched_ev a hn) ?_
          simp only [if_neg h3]; exact Ev.now _
  · refine ⟨(0, 1), Ev.bind (specOk_ev a hn) ?_, Ev.bind (valid_ev a hn) ?_⟩
    · simp only [if_neg h]; exact Ev.now _
    · simp only [if_neg h]; exact Ev.now _
end Go.Proofs.Ythhmkkclmopkhaa.Br
