/- What the law FnTrees leans on: plain facts, and what the printed functions that it reaches come to; for all arguments that the facts name. -/
import Derived.Test.YtcaijfndmkdboaaPt0
import Derived.Test.YtcaijfndmkdboaaPt19
import Derived.Test.YtcaijfndmkdboaaPt22
import Derived.Test.YtcaijfndmkdboaaPt25
import Derived.Test.YtcaijfndmkdboaaPt27
import Derived.Test.YtcaijfndmkdboaaPt29
import Derived.Test.YtcaijfndmkdboaaPt68
import Derived.Test.YtcaijfndmkdboaaPt72
import Derived.Test.YtcaijfndmkdboaaPt78
import Derived.Test.YtcaijfndmkdboaaPt80
import Derived.Test.YtcaijfndmkdboaaPt82
import Derived.Test.YtcaijfndmkdboaaPt83
import Derived.Test.YtcaijfndmkdboaaPt84
import Derived.Test.YtcaijfndmkdboaaPt147
import Derived.Test.YtcaijfndmkdboaaPt149
import Derived.Test.YtcaijfndmkdboaaPt153
namespace Go.Proofs.Ytcaijfndmkdboaa.Th

def isC (b : Int) : Bool := b == 40 || b == 91
def isR (b : Int) : Bool := b == 41 || b == 93

structure St where
  p : List Int
  r : List Int
  c : List Int
  d : List Int
  q : List Int

def top (c : List Int) : Int := c.getLast?.getD (-1)

def step (s : St) (i b : Int) : St :=
  if isR b = true then
    if s.c = [] then ⟨s.p ++ [-2], s.r ++ [i], [], s.d ++ [0], s.q ++ [-1]⟩
    else ⟨s.p.set (top s.c).toNat i ++ [top s.c], s.r, s.c.dropLast, s.d ++ [(s.c.dropLast.length : Int)], s.q ++ [top s.c.dropLast]⟩
  else if isC b = true then ⟨s.p ++ [-2], s.r, s.c ++ [i], s.d ++ [(s.c.length : Int) + 1], s.q ++ [top s.c]⟩
  else ⟨s.p ++ [-1], s.r, s.c, s.d ++ [(s.c.length : Int)], s.q ++ [top s.c]⟩

def st (b : Int → Int) : Nat → St
  | 0 => ⟨[], [], [], [0], []⟩
  | n + 1 => step (st b n) n (b n)

theorem isR_notC {b : Int} (h : isR b = true) : isC b = false := by
  unfold isR at h; unfold isC
  simp at h ⊢
  omega

structure Basic (s : St) (n : Nat) : Prop where
  lp : s.p.length = n
  lq : s.q.length = n
  ld : s.d.length = n + 1
  lr : s.r.length ≤ n
  lc : s.c.length ≤ n
  hc : ∀ x ∈ s.c, 0 ≤ x ∧ x < n
  hr : ∀ x ∈ s.r, 0 ≤ x ∧ x < n

theorem top_mem {c : List Int} (h : c ≠ []) : top c ∈ c := by
  unfold top
  rw [List.getLast?_eq_some_getLast h]
  exact List.getLast_mem h

theorem basic (b : Int → Int) : ∀ n, Basic (st b n) n
  | 0 => by constructor <;> simp [st]
  | n + 1 => by
    have ih := basic b n
    obtain ⟨h1, h2, h3, h4, h5, h6, h7⟩ := ih
    unfold st step
    split
    · split
      · constructor <;> simp_all
        · intro x hx; rcases hx with hx | hx
          · have := h7 x hx; omega
          · omega
      · rename_i hne
        have hd : ∀ x ∈ (st b n).c.dropLast, x ∈ (st b n).c := fun x hx => List.dropLast_subset _ hx
        constructor
        · simp; exact h1
        · simp; exact h2
        · simp; exact h3
        · simp; omega
        · simp; omega
        · intro x hx; have := h6 x (hd x hx); constructor <;> omega
        · intro x hx; have := h7 x hx; constructor <;> omega
    · split
      · constructor
        · simp; exact h1
        · simp; exact h2
        · simp; exact h3
        · simp; omega
        · simp; omega
        · intro x hx
          rcases List.mem_append.1 hx with hx | hx
          · have := h6 x hx; constructor <;> omega
          · simp at hx; omega
        · intro x hx; have := h7 x hx; constructor <;> omega
      · constructor
        · simp; exact h1
        · simp; exact h2
        · simp; exact h3
        · simp; omega
        · simp; omega
        · intro x hx; have := h6 x hx; constructor <;> omega
        · intro x hx; have := h7 x hx; constructor <;> omega


def g (l : List Int) (j : Nat) : Int := l.getD j 0

theorem g_append_left {l m : List Int} {j : Nat} (h : j < l.length) : g (l ++ m) j = g l j := by
  unfold g; simp [List.getD_eq_getElem?_getD, List.getElem?_append_left h]
theorem g_append_end {l : List Int} {x : Int} {j : Nat} (h : j = l.length) : g (l ++ [x]) j = x := by
  subst h; unfold g; simp [List.getD_eq_getElem?_getD]
theorem g_set {l : List Int} {t j : Nat} {x : Int} : g (l.set t x) j = if t = j ∧ j < l.length then x else g l j := by
  unfold g
  simp only [List.getD_eq_getElem?_getD, List.getElem?_set]
  by_cases h : t = j
  · subst h
    by_cases h2 : t < l.length
    · simp [h2]
    · simp [h2]
  · simp [h]

structure Inv (b : Int → Int) (s : St) (n : Nat) : Prop where
  ba : Basic s n
  inc : (s.r ++ s.c).Pairwise (· < ·)
  m2 : ∀ j : Nat, j < n → (g s.p j = -2 ↔ (j : Int) ∈ s.r ∨ (j : Int) ∈ s.c)
  br : ∀ j : Nat, (j : Int) ∈ s.r → isR (b j) = true
  bc : ∀ j : Nat, (j : Int) ∈ s.c → isC (b j) = true
  m1 : ∀ j : Nat, j < n → (g s.p j = -1 ↔ isC (b j) = false ∧ isR (b j) = false)
  pos : ∀ j : Nat, j < n → 0 ≤ g s.p j → g s.p j < n ∧ g s.p (g s.p j).toNat = j ∧ ((isC (b j) = true ∧ (j : Int) < g s.p j) ∨ (isR (b j) = true ∧ g s.p j < j))
  lo : ∀ j : Nat, j < n → -2 ≤ g s.p j

theorem pw_mem {l : List Int} {x : Int} (h : (l ++ [x]).Pairwise (· < ·)) : ∀ y ∈ l, y < x := by
  intro y hy
  exact (List.pairwise_append.1 h).2.2 y hy x (by simp)

theorem dropLast_top {c : List Int} (h : c ≠ []) : c.dropLast ++ [top c] = c := by
  unfold top
  rw [List.getLast?_eq_some_getLast h]
  exact List.dropLast_concat_getLast h

theorem inv (b : Int → Int) : ∀ n, Inv b (st b n) n
  | 0 => by
    constructor <;> first | exact basic b 0 | simp [st]
  | n + 1 => by
    have ih := inv b n
    have hba := basic b (n + 1)
    have hst : st b (n + 1) = step (st b n) n (b n) := rfl
    obtain ⟨B, inc, m2, br, bc, m1, pos, lo⟩ := ih
    obtain ⟨lp, lq, ld, lr, lc, hc, hr⟩ := B
    generalize hs : st b n = s at *
    rw [hst] at hba ⊢
    by_cases hR : isR (b n) = true
    · have hC := isR_notC hR
      by_cases he : s.c = []
      · have e : step s n (b n) = ⟨s.p ++ [-2], s.r ++ [(n : Int)], [], s.d ++ [0], s.q ++ [-1]⟩ := by simp [step, hR, he]
        rw [e] at hba ⊢
        rw [he, List.append_nil] at inc
        have gl : ∀ j : Nat, j < n → g (s.p ++ [-2]) j = g s.p j := fun j hj => g_append_left (by omega)
        have gn : g (s.p ++ [-2]) n = -2 := g_append_end lp.symm
        refine ⟨hba, ?_, ?_, ?_, ?_, ?_, ?_, ?_⟩
        · simp only [List.append_nil]
          refine List.pairwise_append.2 ⟨inc, by simp, ?_⟩
          intro a ha x hx; simp at hx; subst hx; exact (hr a ha).2
        · intro j hj
          by_cases hjn : j = n
          · subst hjn; simp [gn]
          · have hj' : j < n := by omega
            rw [gl j hj', m2 j hj', he]
            simp; omega
        · intro j hj
          rcases List.mem_append.1 hj with h | h
          · exact br j h
          · simp at h; rw [show j = n by omega]; exact hR
        · intro j hj; simp at hj
        · intro j hj
          by_cases hjn : j = n
          · subst hjn; simp [gn, hR]
          · have hj' : j < n := by omega
            rw [gl j hj']; exact m1 j hj'
        · intro j hj h0
          by_cases hjn : j = n
          · subst hjn; rw [gn] at h0; omega
          · have hj' : j < n := by omega
            rw [gl j hj'] at h0 ⊢
            obtain ⟨p1, p2, p3⟩ := pos j hj' h0
            refine ⟨by omega, ?_, p3⟩
            rw [gl _ (by omega)]; exact p2
        · intro j hj
          by_cases hjn : j = n
          · subst hjn; rw [gn]; omega
          · have hj' : j < n := by omega
            rw [gl j hj']; exact lo j hj'
      · have e : step s n (b n) = ⟨s.p.set (top s.c).toNat n ++ [top s.c], s.r, s.c.dropLast, s.d ++ [(s.c.dropLast.length : Int)], s.q ++ [top s.c.dropLast]⟩ := by simp [step, hR, he]
        rw [e] at hba ⊢
        have ht := top_mem he
        obtain ⟨t0, t1⟩ := hc _ ht
        obtain ⟨t, htt⟩ := Int.eq_ofNat_of_zero_le t0
        have hdt := dropLast_top he
        have htn : t < n := by omega
        have ht2 : g s.p t = -2 := (m2 t htn).2 (Or.inr (htt ▸ ht))
        have htC : isC (b t) = true := bc t (htt ▸ ht)
        rw [htt] at hdt ⊢
        simp only [Int.toNat_natCast]
        have inc' : (s.r ++ s.c.dropLast ++ [(t : Int)]).Pairwise (· < ·) := by rw [List.append_assoc, hdt]; exact inc
        have hlt := pw_mem inc'
        have gn : g (s.p.set t n ++ [(t : Int)]) n = t := g_append_end (by simp [lp])
        have gl : ∀ j : Nat, j < n → g (s.p.set t n ++ [(t : Int)]) j = if t = j then (n : Int) else g s.p j := by
          intro j hj
          rw [g_append_left (by simp; omega), g_set]
          by_cases h : t = j
          · simp [h]; omega
          · simp [h]
        have hcm : ∀ j : Nat, (j : Int) ∈ s.c ↔ (j : Int) ∈ s.c.dropLast ∨ j = t := by
          intro j
          conv => lhs; rw [← hdt]
          rw [List.mem_append, List.mem_singleton, Int.ofNat_inj]
        refine ⟨by rw [htt] at hba; simpa using hba, ?_, ?_, ?_, ?_, ?_, ?_, ?_⟩
        · exact (List.pairwise_append.1 inc').1
        · intro j hj
          by_cases hjn : j = n
          · subst hjn
            rw [gn]
            constructor
            · intro h; omega
            · intro h
              rcases h with h | h
              · have := hr _ h; omega
              · have := hc _ ((hcm j).2 (Or.inl h)); omega
          · have hj' : j < n := by omega
            rw [gl j hj']
            by_cases hjt : t = j
            · subst hjt
              simp only [if_true]
              constructor
              · intro h; omega
              · intro h
                rcases h with h | h
                · have := hlt t (by simp [h]); omega
                · have := hlt t (by simp [h]); omega
            · rw [if_neg hjt, m2 j hj', hcm j]
              constructor
              · rintro (h | h | h)
                · exact Or.inl h
                · exact Or.inr h
                · omega
              · rintro (h | h)
                · exact Or.inl h
                · exact Or.inr (Or.inl h)
        · exact br
        · intro j hj; exact bc j ((hcm j).2 (Or.inl hj))
        · intro j hj
          by_cases hjn : j = n
          · subst hjn; rw [gn]; simp [hR]
          · have hj' : j < n := by omega
            rw [gl j hj']
            by_cases hjt : t = j
            · subst hjt; simp [htC]
            · rw [if_neg hjt]; exact m1 j hj'
        · intro j hj h0
          by_cases hjn : j = n
          · subst hjn
            rw [gn]
            refine ⟨by omega, ?_, Or.inr ⟨hR, by omega⟩⟩
            rw [Int.toNat_natCast, gl t htn, if_pos rfl]
          · have hj' : j < n := by omega
            rw [gl j hj'] at h0 ⊢
            by_cases hjt : t = j
            · subst hjt
              simp only [if_true]
              refine ⟨by omega, ?_, Or.inl ⟨htC, by omega⟩⟩
              rw [Int.toNat_natCast, gn]
            · rw [if_neg hjt] at h0 ⊢
              obtain ⟨p1, p2, p3⟩ := pos j hj' h0
              refine ⟨by omega, ?_, p3⟩
              rw [gl _ (by omega), if_neg]
              · exact p2
              · intro h; rw [← h, ht2] at p2; omega
        · intro j hj
          by_cases hjn : j = n
          · subst hjn; rw [gn]; omega
          · have hj' : j < n := by omega
            rw [gl j hj']
            split
            · omega
            · exact lo j hj'
    · have hR' : isR (b n) = false := by simpa using hR
      by_cases hC : isC (b n) = true
      · have e : step s n (b n) = ⟨s.p ++ [-2], s.r, s.c ++ [(n : Int)], s.d ++ [(s.c.length : Int) + 1], s.q ++ [top s.c]⟩ := by simp [step, hR, hC]
        rw [e] at hba ⊢
        have gl : ∀ j : Nat, j < n → g (s.p ++ [-2]) j = g s.p j := fun j hj => g_append_left (by omega)
        have gn : g (s.p ++ [-2]) n = -2 := g_append_end lp.symm
        refine ⟨hba, ?_, ?_, ?_, ?_, ?_, ?_, ?_⟩
        · rw [← List.append_assoc]
          refine List.pairwise_append.2 ⟨inc, by simp, ?_⟩
          intro a ha x hx; simp at hx; subst hx
          rcases List.mem_append.1 ha with h | h
          · exact (hr a h).2
          · exact (hc a h).2
        · intro j hj
          by_cases hjn : j = n
          · subst hjn; simp [gn]
          · have hj' : j < n := by omega
            rw [gl j hj', m2 j hj', List.mem_append, List.mem_singleton, Int.ofNat_inj]
            constructor
            · rintro (h | h)
              · exact Or.inl h
              · exact Or.inr (Or.inl h)
            · rintro (h | h | h)
              · exact Or.inl h
              · exact Or.inr h
              · omega
        · exact br
        · intro j hj
          rcases List.mem_append.1 hj with h | h
          · exact bc j h
          · simp at h; rw [show j = n by omega]; exact hC
        · intro j hj
          by_cases hjn : j = n
          · subst hjn; simp [gn, hC]
          · have hj' : j < n := by omega
            rw [gl j hj']; exact m1 j hj'
        · intro j hj h0
          by_cases hjn : j = n
          · subst hjn; rw [gn] at h0; omega
          · have hj' : j < n := by omega
            rw [gl j hj'] at h0 ⊢
            obtain ⟨p1, p2, p3⟩ := pos j hj' h0
            refine ⟨by omega, ?_, p3⟩
            rw [gl _ (by omega)]; exact p2
        · intro j hj
          by_cases hjn : j = n
          · subst hjn; rw [gn]; omega
          · have hj' : j < n := by omega
            rw [gl j hj']; exact lo j hj'
      · have hC' : isC (b n) = false := by simpa using hC
        have e : step s n (b n) = ⟨s.p ++ [-1], s.r, s.c, s.d ++ [(s.c.length : Int)], s.q ++ [top s.c]⟩ := by simp [step, hR, hC]
        rw [e] at hba ⊢
        have gl : ∀ j : Nat, j < n → g (s.p ++ [-1]) j = g s.p j := fun j hj => g_append_left (by omega)
        have gn : g (s.p ++ [-1]) n = -1 := g_append_end lp.symm
        refine ⟨hba, inc, ?_, br, bc, ?_, ?_, ?_⟩
        · intro j hj
          by_cases hjn : j = n
          · subst hjn; rw [gn]
            constructor
            · intro h; omega
            · rintro (h | h)
              · have := hr _ h; omega
              · have := hc _ h; omega
          · have hj' : j < n := by omega
            rw [gl j hj', m2 j hj']
        · intro j hj
          by_cases hjn : j = n
          · subst hjn; simp [gn, hC', hR']
          · have hj' : j < n := by omega
            rw [gl j hj']; exact m1 j hj'
        · intro j hj h0
          by_cases hjn : j = n
          · subst hjn; rw [gn] at h0; omega
          · have hj' : j < n := by omega
            rw [gl j hj'] at h0 ⊢
            obtain ⟨p1, p2, p3⟩ := pos j hj' h0
            refine ⟨by omega, ?_, p3⟩
            rw [gl _ (by omega)]; exact p2
        · intro j hj
          by_cases hjn : j = n
          · subst hjn; rw [gn]; omega
          · have hj' : j < n := by omega
            rw [gl j hj']; exact lo j hj'

/-- What is on the stack after m symbols: by the partners at the end. -/
theorem onstack (b : Int → Int) (m : Nat) : ∀ n, m ≤ n → ∀ k : Nat, k < m → ((k : Int) ∈ (st b m).c ↔ isC (b k) = true ∧ (g (st b n).p k = -2 ∨ (m : Int) ≤ g (st b n).p k)) := by
  intro n hn
  obtain ⟨d, rfl⟩ := Nat.exists_eq_add_of_le hn
  clear hn
  induction d with
  | zero =>
    intro k hk
    have I := inv b m
    constructor
    · intro h; exact ⟨I.bc k h, Or.inl ((I.m2 k hk).2 (Or.inr h))⟩
    · rintro ⟨h1, h2 | h2⟩
      · rcases (I.m2 k hk).1 h2 with h | h
        · have := isR_notC (I.br k h); rw [this] at h1; cases h1
        · exact h
      · have := I.pos k hk (by simp at h2; omega)
        simp at h2; omega
  | succ d ih =>
    intro k hk
    rw [ih k hk]
    have I := inv b (m + d)
    have B := I.ba
    have hst : st b (m + (d + 1)) = step (st b (m + d)) ((m + d : Nat) : Int) (b ((m + d : Nat) : Int)) := rfl
    rw [hst]
    generalize hs : st b (m + d) = s at *
    have lp := B.lp
    unfold step
    split
    · split
      · rw [g_append_left (by omega)]
      · rename_i he
        have ht := top_mem he
        obtain ⟨t0, t1⟩ := B.hc _ ht
        obtain ⟨t, htt⟩ := Int.eq_ofNat_of_zero_le t0
        rw [htt]
        simp only [Int.toNat_natCast]
        rw [g_append_left (by simp; omega), g_set]
        by_cases h : t = k
        · subst h
          have h2 : g s.p t = -2 := (I.m2 t (by omega)).2 (Or.inr (htt ▸ ht))
          rw [if_pos ⟨rfl, by omega⟩, h2]
          simp
          intro _
          right
          omega
        · rw [if_neg (by omega)]
    · split
      · rw [g_append_left (by omega)]
      · rw [g_append_left (by omega)]

/-- Two increasing lists with the same members. -/
theorem inc_ext : ∀ {l m : List Int}, l.Pairwise (· < ·) → m.Pairwise (· < ·) → (∀ x, x ∈ l ↔ x ∈ m) → l = m
  | [], [], _, _, _ => rfl
  | [], y :: m, _, _, h => by have := (h y).2 (by simp); simp at this
  | x :: l, [], _, _, h => by have := (h x).1 (by simp); simp at this
  | x :: l, y :: m, hl, hm, h => by
    obtain ⟨a1, a2⟩ := List.pairwise_cons.1 hl
    obtain ⟨b1, b2⟩ := List.pairwise_cons.1 hm
    have e : x = y := by
      rcases List.mem_cons.1 ((h x).1 (by simp)) with r | r
      · exact r
      · rcases List.mem_cons.1 ((h y).2 (by simp)) with r2 | r2
        · exact r2.symm
        · have := b1 x r; have := a1 y r2; omega
    subst e
    congr 1
    refine inc_ext a2 b2 fun z => ?_
    have hz := h z
    constructor
    · intro hz2
      rcases List.mem_cons.1 (hz.1 (List.mem_cons_of_mem _ hz2)) with r | r
      · have := a1 z hz2; omega
      · exact r
    · intro hz2
      rcases List.mem_cons.1 (hz.2 (List.mem_cons_of_mem _ hz2)) with r | r
      · have := b1 z hz2; omega
      · exact r

/-- The places up to i for which a test says yes, in order. -/
def sel (f : Nat → Bool) : Nat → List Int
  | 0 => []
  | i + 1 => if f i then sel f i ++ [(i : Int)] else sel f i

theorem mem_sel {f : Nat → Bool} : ∀ {i : Nat} {x : Int}, x ∈ sel f i ↔ ∃ j : Nat, j < i ∧ x = j ∧ f j = true
  | 0, x => by simp [sel]
  | i + 1, x => by
    unfold sel
    split
    · rename_i h
      rw [List.mem_append, mem_sel (i := i)]
      constructor
      · rintro (⟨j, h1, h2, h3⟩ | hx)
        · exact ⟨j, by omega, h2, h3⟩
        · simp at hx; exact ⟨i, by omega, hx, h⟩
      · rintro ⟨j, h1, h2, h3⟩
        by_cases hj : j = i
        · subst hj; right; simp [h2]
        · left; exact ⟨j, by omega, h2, h3⟩
    · rename_i h
      rw [mem_sel (i := i)]
      constructor
      · rintro ⟨j, h1, h2, h3⟩; exact ⟨j, by omega, h2, h3⟩
      · rintro ⟨j, h1, h2, h3⟩
        by_cases hj : j = i
        · subst hj; exact absurd h3 h
        · exact ⟨j, by omega, h2, h3⟩

theorem sel_inc {f : Nat → Bool} : ∀ i, (sel f i).Pairwise (· < ·)
  | 0 => by simp [sel]
  | i + 1 => by
    unfold sel
    split
    · refine List.pairwise_append.2 ⟨sel_inc i, by simp, ?_⟩
      intro a ha x hx
      obtain ⟨j, h1, h2, _⟩ := mem_sel.1 ha
      simp at hx; omega
    · exact sel_inc i

theorem sel_len {f : Nat → Bool} : ∀ i, (sel f i).length ≤ i
  | 0 => by simp [sel]
  | i + 1 => by
    have := sel_len (f := f) i
    unfold sel
    split
    · simp; omega
    · omega

end Go.Proofs.Ytcaijfndmkdboaa.Th
namespace Go.Proofs.Ytcaijfndmkdboaa.Br
open Go.RowKit Go.Proofs.Ytcaijfndmkdboaa.T Go.Proofs.YtcaijfndmkdboaaW.PrintWords Go.Proofs.YtcaijfndmkdboaaW.PrintLast Go.Proofs.YtcaijfndmkdboaaW.PrintMore Go.Proofs.Ytcaijfndmkdboaa.Th
set_option linter.unusedVariables false
set_option linter.unusedSimpArgs false
theorem Ev.succ {α : Type} {g : Nat → Option α} {r : α} (h : Ev (fun k => g (k + 1)) r) : Ev g r := by
  obtain ⟨K, hK⟩ := h
  refine ⟨K + 1, fun k hk => ?_⟩
  obtain ⟨m, rfl⟩ : ∃ m, k = m + 1 := ⟨k - 1, by omega⟩
  exact hK m (by omega)
theorem Ev.done {α : Type} {r s : α} (h : r = s) : Ev (fun _ : Nat => some r) s := h ▸ Ev.now r
theorem w64 {x : Int} (h0 : -9223372036854775808 ≤ x) (h1 : x ≤ 9223372036854775807) : wrap64 x = x := by unfold wrap64; omega

/-- The number of a symbol, -1 if it is none. -/
def sym (b : Int) : Int := if b = 40 then 0 else if b = 91 then 1 else if b = 41 then 2 else if b = 93 then 3 else if b = 97 then 4 else if b = 98 then 5 else -1

def allFrom (f : Nat → Bool) : Nat → Nat → Bool
  | 0, _ => true
  | d + 1, i => f i && allFrom f d (i + 1)

/-- Is a text a word. -/
def okw (a : ByteArray) : Bool := allFrom (fun j => decide (0 ≤ sym (bt a j))) a.size 0 && decide ((a.size : Int) ≤ 60)

theorem bs0 : bt (⟨#[40, 91, 41, 93, 97, 98]⟩ : ByteArray) 0 = 40 := by decide
theorem bs1 : bt (⟨#[40, 91, 41, 93, 97, 98]⟩ : ByteArray) 1 = 91 := by decide
theorem bs2 : bt (⟨#[40, 91, 41, 93, 97, 98]⟩ : ByteArray) 2 = 41 := by decide
theorem bs3 : bt (⟨#[40, 91, 41, 93, 97, 98]⟩ : ByteArray) 3 = 93 := by decide
theorem bs4 : bt (⟨#[40, 91, 41, 93, 97, 98]⟩ : ByteArray) 4 = 97 := by decide
theorem bs5 : bt (⟨#[40, 91, 41, 93, 97, 98]⟩ : ByteArray) 5 = 98 := by decide

theorem symbol_ev (b : Int) : Ev (fun k => spec_l01Symbol.f k b) (sym b) := by
  unfold spec_l01Symbol.f sym
  have w1 : wrap64 (0 + 1) = 1 := by unfold wrap64; omega
  have w2 : wrap64 (1 + 1) = 2 := by unfold wrap64; omega
  have w3 : wrap64 (2 + 1) = 3 := by unfold wrap64; omega
  have w4 : wrap64 (3 + 1) = 4 := by unfold wrap64; omega
  have w5 : wrap64 (4 + 1) = 5 := by unfold wrap64; omega
  have w6 : wrap64 (5 + 1) = 6 := by unfold wrap64; omega
  refine Ev.succ ?_
  simp only [spec_l01Symbol.l0, bs0]
  by_cases h0 : b = 40
  · subst h0; exact Ev.done rfl
  rw [if_neg h0]
  simp only [if_neg (Ne.symm h0), w1]
  refine Ev.succ ?_
  simp only [spec_l01Symbol.l0, bs1]
  by_cases h0 : b = 91
  · subst h0; exact Ev.done rfl
  rw [if_neg h0]
  simp only [if_neg (Ne.symm h0), w2]
  refine Ev.succ ?_
  simp only [spec_l01Symbol.l0, bs2]
  by_cases h0 : b = 41
  · subst h0; exact Ev.done rfl
  rw [if_neg h0]
  simp only [if_neg (Ne.symm h0), w3]
  refine Ev.succ ?_
  simp only [spec_l01Symbol.l0, bs3]
  by_cases h0 : b = 93
  · subst h0; exact Ev.done rfl
  rw [if_neg h0]
  simp only [if_neg (Ne.symm h0), w4]
  refine Ev.succ ?_
  simp only [spec_l01Symbol.l0, bs4]
  by_cases h0 : b = 97
  · subst h0; exact Ev.done rfl
  rw [if_neg h0]
  simp only [if_neg (Ne.symm h0), w5]
  refine Ev.succ ?_
  simp only [spec_l01Symbol.l0, bs5]
  by_cases h0 : b = 98
  · subst h0; exact Ev.done rfl
  rw [if_neg h0]
  simp only [if_neg (Ne.symm h0), w6]
  refine Ev.succ ?_
  simp only [spec_l01Symbol.l0]
  exact Ev.done rfl

theorem index_eq {b : Int} (h0 : 0 ≤ b) (h1 : b ≤ 255) : strings_IndexByte.f (⟨#[40, 91, 41, 93, 97, 98]⟩ : ByteArray) b = some (sym b) := by
  obtain ⟨n, rfl⟩ := Int.eq_ofNat_of_zero_le h0
  have hn : n < 256 := by omega
  clear h0 h1
  unfold strings_IndexByte.f
  congr 1
  have key : ∀ n : Fin 256, Lib.indexByte (⟨#[40, 91, 41, 93, 97, 98]⟩ : ByteArray).data.toList ((n.val : Int).toNat.toUInt8) = sym (n.val : Int) := by decide +kernel
  exact key ⟨n, hn⟩

theorem specOk_loop (a : ByteArray) (hn : a.size ≤ 1048576) : ∀ d i : Nat, i + d = a.size →
    Ev (fun k => spec_l01Ok.l0 k a i) (allFrom (fun j => decide (0 ≤ sym (bt a j))) d i && decide ((a.size : Int) ≤ 60)) := by
  intro d
  induction d with
  | zero =>
    intro i hi
    refine Ev.succ ?_
    simp only [spec_l01Ok.l0, if_neg (show ¬ (i : Int) < (a.size : Int) by omega), allFrom, Bool.true_and]
    exact Ev.done rfl
  | succ d ih =>
    intro i hi
    refine Ev.succ ?_
    simp only [spec_l01Ok.l0, if_pos (show (i : Int) < (a.size : Int) by omega), if_pos (show (0 : Int) ≤ (i : Int) by omega), allFrom]
    refine Ev.bind (symbol_ev _) ?_
    rw [w64 (by omega) (by omega)]
    by_cases h : sym (bt a i) < 0
    · simp only [if_pos h]
      exact Ev.done (by simp; omega)
    · simp only [if_neg h]
      have := ih (i + 1) (by omega)
      simpa [show 0 ≤ sym (bt a i) by omega] using this

theorem specOk_ev (a : ByteArray) (hn : a.size ≤ 1048576) : Ev (fun k => spec_l01Ok.f k a) (okw a) := specOk_loop a hn a.size 0 (by omega)

theorem valid_loop (a : ByteArray) (hn : a.size ≤ 1048576) : ∀ d i : Nat, i + d = a.size →
    Ev (fun k => impl_ValidWord.l0 k a a.size i) (allFrom (fun j => decide (0 ≤ sym (bt a j))) d i && decide ((a.size : Int) ≤ 60)) := by
  intro d
  induction d with
  | zero =>
    intro i hi
    refine Ev.succ ?_
    simp only [impl_ValidWord.l0, if_neg (show ¬ (i : Int) < (a.size : Int) by omega), allFrom, Bool.true_and]
    exact Ev.done rfl
  | succ d ih =>
    intro i hi
    refine Ev.succ ?_
    have hb := bt_range a i
    simp only [impl_ValidWord.l0, if_pos (show (i : Int) < (a.size : Int) by omega), if_pos (show (0 : Int) ≤ (i : Int) by omega), allFrom, index_eq hb.1 hb.2, Option.bind_some]
    rw [w64 (by omega) (by omega)]
    by_cases h : sym (bt a i) < 0
    · simp only [if_pos h]
      exact Ev.done (by simp; omega)
    · simp only [if_neg h]
      have := ih (i + 1) (by omega)
      simpa [show 0 ≤ sym (bt a i) by omega] using this

theorem valid_ev (a : ByteArray) (hn : a.size ≤ 1048576) : Ev (fun k => impl_ValidWord.f k a) (okw a) := valid_loop a hn a.size 0 (by omega)

end Go.Proofs.Ytcaijfndmkdboaa.Br
namespace Go.Proofs.Ytcaijfndmkdboaa.Br
open Go.RowKit Go.Proofs.Ytcaijfndmkdboaa.T Go.Proofs.YtcaijfndmkdboaaW.PrintWords Go.Proofs.YtcaijfndmkdboaaW.PrintLast Go.Proofs.YtcaijfndmkdboaaW.PrintMore Go.Proofs.Ytcaijfndmkdboaa.Th
set_option linter.unusedVariables false
set_option linter.unusedSimpArgs false
theorem allFrom_iff {f : Nat → Bool} : ∀ {d i : Nat}, allFrom f d i = true ↔ ∀ j, i ≤ j → j < i + d → f j = true
  | 0, i => by simp [allFrom]; omega
  | d + 1, i => by
    unfold allFrom
    rw [Bool.and_eq_true, allFrom_iff]
    constructor
    · rintro ⟨h1, h2⟩ j hj hj2
      by_cases h : j = i
      · subst h; exact h1
      · exact h2 j (by omega) (by omega)
    · intro h
      exact ⟨h i (by omega) (by omega), fun j h1 h2 => h j (by omega) (by omega)⟩

theorem okw_iff {a : ByteArray} : okw a = true ↔ (∀ j : Nat, j < a.size → 0 ≤ sym (bt a j)) ∧ a.size ≤ 60 := by
  unfold okw
  rw [Bool.and_eq_true, allFrom_iff]
  simp
  intro _
  omega

theorem okw_size {a : ByteArray} (h : okw a = true) : a.size ≤ 60 := (okw_iff.1 h).2
theorem okw_sym {a : ByteArray} (h : okw a = true) {j : Nat} (hj : j < a.size) : 0 ≤ sym (bt a j) := (okw_iff.1 h).1 j hj

theorem bt_lt {a : ByteArray} {j : Nat} (h : j < a.size) : bt a j = (a[j].toNat : Int) := by
  unfold bt; simp [h]
theorem bt_ge {a : ByteArray} {j : Nat} (h : a.size ≤ j) : bt a j = 0 := by
  unfold bt; simp; omega

theorem bt_append (a b : ByteArray) (j : Nat) : bt (a ++ b) j = if j < a.size then bt a j else bt b ((j - a.size : Nat) : Int) := by
  by_cases h : j < a.size
  · rw [if_pos h, bt_lt h, bt_lt (by rw [ByteArray.size_append]; omega), ByteArray.getElem_append_left h]
  · rw [if_neg h]
    by_cases h2 : j < a.size + b.size
    · rw [bt_lt (by rw [ByteArray.size_append]; exact h2), bt_lt (by omega), ByteArray.getElem_append_right (by omega)]
    · rw [bt_ge (by rw [ByteArray.size_append]; omega), bt_ge (by omega)]

theorem bt_extract (a : ByteArray) {i e j : Nat} (he : e ≤ a.size) (hj : j < e - i) : bt (a.extract i e) j = bt a ((i + j : Nat) : Int) := by
  rw [bt_lt (by rw [ByteArray.size_extract]; omega), bt_lt (by omega), ByteArray.getElem_extract]

/-- Two texts with the same bytes. -/
theorem ba_ext {a b : ByteArray} (hs : a.size = b.size) (h : ∀ j : Nat, j < a.size → bt a j = bt b j) : a = b := by
  apply ByteArray.ext
  apply Array.ext
  · exact hs
  · intro i h1 h2
    have h1' : i < a.size := h1
    have h2' : i < b.size := h2
    have e := h i h1
    rw [bt_lt h1', bt_lt h2'] at e
    have : a[i].toNat = b[i].toNat := by exact_mod_cast e
    exact UInt8.toNat_inj.1 this

end Go.Proofs.Ytcaijfndmkdboaa.Br
namespace Go.Proofs.Ytcaijfndmkdboaa.Br
open Go.RowKit Go.Proofs.Ytcaijfndmkdboaa.T Go.Proofs.YtcaijfndmkdboaaW.PrintWords Go.Proofs.YtcaijfndmkdboaaW.PrintLast Go.Proofs.YtcaijfndmkdboaaW.PrintMore Go.Proofs.Ytcaijfndmkdboaa.Th
set_option linter.unusedVariables false
set_option linter.unusedSimpArgs false
theorem isReturn_eq (b : Int) : impl_isReturn.f b = some (isR b) := by
  unfold impl_isReturn.f isR
  by_cases h : b = 41 <;> simp [h]
theorem isCall_eq (b : Int) : impl_isCall.f b = some (isC b) := by
  unfold impl_isCall.f isC
  by_cases h : b = 40 <;> simp [h]
theorem sReturn_eq (b : Int) : spec_l01Return.f b = some (isR b) := by
  unfold spec_l01Return.f isR
  by_cases h : b = 41 <;> simp [h]
theorem sCall_eq (b : Int) : spec_l01Call.f b = some (isC b) := by
  unfold spec_l01Call.f isC
  by_cases h : b = 40 <;> simp [h]

theorem rd_last {c : List Int} (h : c ≠ []) : rd c ((c.length : Int) - 1) = top c := by
  unfold rd top
  have : 0 < c.length := List.length_pos_iff.2 h
  rw [List.getLast?_eq_getElem?, List.getD_eq_getElem?_getD, show ((c.length : Int) - 1).toNat = c.length - 1 by omega, List.getElem?_eq_getElem (by omega)]
  rfl

theorem top_nil {c : List Int} (h : c = []) : top c = -1 := by subst h; rfl
theorem take_last {c : List Int} : c.take ((c.length : Int) - 1).toNat = c.dropLast := by
  rw [List.dropLast_eq_take, show ((c.length : Int) - 1).toNat = c.length - 1 by omega]

/-- From the head of j2 on: the parent is told, a call is put on the stack, the rows grow. -/
theorem match_j2 (a : ByteArray) (hn : a.size ≤ 1048576) (i : Nat) (hi : i < a.size) (x6 : Int) (p r c d q : List Int) (R : List Int × List Int × List Int × List Int × List Int)
    (lp : p.length ≤ i) (lr : r.length ≤ i + 1) (lc : c.length ≤ i) (ld : d.length ≤ i + 1) (lq : q.length ≤ i)
    (h : if isC (bt a i) = true then Ev (fun k => impl_match.l0 k a a.size (i + 1 : Nat) (p ++ [-2]) r (c ++ [(i : Int)]) (d ++ [(c.length : Int) + 1]) (q ++ [top c])) R
         else Ev (fun k => impl_match.l0 k a a.size (i + 1 : Nat) (p ++ [x6]) r c (d ++ [(c.length : Int)]) (q ++ [top c])) R) :
    Ev (fun k => impl_match.j2 k a i i x6 a.size i p r c d q) R := by
  have j3 : Ev (fun k => impl_match.j3 k a i i x6 (top c) a.size i p r c d q) R := by
    refine Ev.succ ?_
    simp only [impl_match.j3, if_pos (show (0 : Int) ≤ (i : Int) by omega), if_pos (show (i : Int) < (a.size : Int) by omega), isCall_eq, Option.bind_some]
    have j4 : ∀ (x : Int) (c2 : List Int), c2.length ≤ i + 1 → Ev (fun k => impl_match.l0 k a a.size (i + 1 : Nat) (p ++ [x]) r c2 (d ++ [(c2.length : Int)]) (q ++ [top c])) R → Ev (fun k => impl_match.j4 k a x (top c) a.size i p r c2 d q) R := by
      intro x c2 l2 h2
      refine Ev.succ ?_
      simp only [impl_match.j4, Option.bind_some, impl_size_int64.f, List.length_cons, List.length_nil]
      rw [w64 (by omega) (by omega)]
      simp only [if_pos (show p.length + (0 + 1) < 17592186044416 by omega), if_pos (show q.length + (0 + 1) < 17592186044416 by omega), if_pos (show d.length + (0 + 1) < 17592186044416 by omega)]
      exact h2
    by_cases hC : isC (bt a i) = true
    · simp only [hC, if_true, List.length_cons, List.length_nil, if_pos (show c.length + (0 + 1) < 17592186044416 by omega)] at h ⊢
      refine j4 (-2) (c ++ [(i : Int)]) (by simp; omega) ?_
      simpa using h
    · simp only [if_neg hC] at h ⊢
      exact j4 x6 c (by omega) h
  refine Ev.succ ?_
  simp only [impl_match.j2]
  by_cases hc : c = []
  · simp only [if_neg (show ¬ (c.length : Int) > 0 by simp [hc])]
    rw [top_nil hc] at j3
    exact j3
  · have : 0 < c.length := List.length_pos_iff.2 hc
    rw [w64 (by omega) (by omega)]
    simp only [if_pos (show (c.length : Int) > 0 by omega), if_pos (show 0 ≤ (c.length : Int) - 1 by omega), if_pos (show (c.length : Int) - 1 < (c.length : Int) by omega), rd_last hc]
    exact j3

theorem match_loop (a : ByteArray) (hn : a.size ≤ 1048576) : ∀ d i : Nat, i + d = a.size →
    Ev (fun k => impl_match.l0 k a a.size i (st (bt a) i).p (st (bt a) i).r (st (bt a) i).c (st (bt a) i).d (st (bt a) i).q)
      ((st (bt a) a.size).p, (st (bt a) a.size).r, (st (bt a) a.size).c, (st (bt a) a.size).d, (st (bt a) a.size).q) := by
  intro d
  induction d with
  | zero =>
    intro i hi
    obtain rfl : i = a.size := by omega
    refine Ev.succ ?_
    simp only [impl_match.l0, if_neg (show ¬ (a.size : Int) < (a.size : Int) by omega)]
    exact Ev.now _
  | succ d ih =>
    intro i hi
    have B := basic (bt a) i
    have hnext := ih (i + 1) (by omega)
    have hst : st (bt a) (i + 1) = Th.step (st (bt a) i) i (bt a i) := rfl
    rw [hst] at hnext
    obtain ⟨lp, lq, ld, lr, lc, hc, hr⟩ := B
    generalize st (bt a) i = s at *
    refine Ev.succ ?_
    simp only [impl_match.l0, if_pos (show (i : Int) < (a.size : Int) by omega), if_pos (show (0 : Int) ≤ (i : Int) by omega), isReturn_eq, Option.bind_some]
    by_cases hR : isR (bt a i) = true
    · have hC := isR_notC hR
      simp only [hR, if_true]
      refine Ev.succ ?_
      simp only [impl_match.j1]
      by_cases he : s.c = []
      · simp only [he, List.length_nil, Int.ofNat_zero, Int.natCast_zero, BEq.rfl, if_true, Option.bind_some, List.length_cons]
        simp only [if_pos (show s.r.length + (0 + 1) < 17592186044416 by omega)]
        refine match_j2 a hn i (by omega) (-2) _ _ _ _ _ _ (by omega) (by simp; omega) (by simp) (by omega) (by omega) ?_
        rw [if_neg (by simp [hC])]
        simp only [Th.step, hR, if_true, he] at hnext
        exact hnext
      · have hl : 0 < s.c.length := List.length_pos_iff.2 he
        have ht := hc _ (top_mem he)
        have hz : ((s.c.length : Int) == 0) = false := by simp; omega
        simp only [hz, Bool.false_eq_true, if_false]
        rw [w64 (by omega) (by omega)]
        simp only [if_pos (show (0 : Int) ≤ (i : Int) by omega), if_pos (show (i : Int) < (a.size : Int) by omega), isReturn_eq, Option.bind_some, hR, if_true,
          if_pos (show 0 ≤ (s.c.length : Int) - 1 by omega), if_pos (show (s.c.length : Int) - 1 < (s.c.length : Int) by omega), rd_last he, if_pos ht.1, if_pos (show top s.c < (s.p.length : Int) by omega), if_pos (show (s.c.length : Int) - 1 ≤ (s.c.length : Int) by omega), take_last]
        refine match_j2 a hn i (by omega) _ _ _ _ _ _ _ (by simp; omega) (by omega) (by simp; omega) (by omega) (by omega) ?_
        rw [if_neg (by simp [hC])]
        simp only [Th.step, hR, if_true, if_neg he] at hnext
        exact hnext
    · have hR' : isR (bt a i) = false := by simpa using hR
      simp only [hR', Bool.false_eq_true, if_false]
      refine Ev.succ ?_
      simp only [impl_match.j1, Bool.false_eq_true, if_false, if_pos (show (0 : Int) ≤ (i : Int) by omega), if_pos (show (i : Int) < (a.size : Int) by omega), isReturn_eq, Option.bind_some, hR']
      refine match_j2 a hn i (by omega) (-1) _ _ _ _ _ _ (by omega) (by omega) (by omega) (by omega) (by omega) ?_
      by_cases hC : isC (bt a i) = true
      · rw [if_pos hC]
        simp only [Th.step, hR', Bool.false_eq_true, if_false, hC, if_true] at hnext
        exact hnext
      · rw [if_neg hC]
        simp only [Th.step, hR', Bool.false_eq_true, if_false, hC] at hnext
        exact hnext

theorem match_ev (a : ByteArray) (hn : a.size ≤ 1048576) : Ev (fun k => impl_match.f k a)
    ((st (bt a) a.size).p, (st (bt a) a.size).r, (st (bt a) a.size).c, (st (bt a) a.size).d, (st (bt a) a.size).q) := match_loop a hn a.size 0 (by omega)

end Go.Proofs.Ytcaijfndmkdboaa.Br
namespace Go.Proofs.Ytcaijfndmkdboaa.Br
open Go.RowKit Go.Proofs.Ytcaijfndmkdboaa.T Go.Proofs.YtcaijfndmkdboaaW.PrintWords Go.Proofs.YtcaijfndmkdboaaW.PrintLast Go.Proofs.YtcaijfndmkdboaaW.PrintMore Go.Proofs.Ytcaijfndmkdboaa.Th
set_option linter.unusedVariables false
set_option linter.unusedSimpArgs false
theorem partners_loop (a : ByteArray) (hn : a.size ≤ 1048576) : ∀ d i : Nat, i + d = a.size →
    Ev (fun k => spec_l01Partners.l0 k a (st (bt a) i).p (st (bt a) i).c i) (st (bt a) a.size).p := by
  intro d
  induction d with
  | zero =>
    intro i hi
    obtain rfl : i = a.size := by omega
    refine Ev.succ ?_
    simp only [spec_l01Partners.l0, if_neg (show ¬ (a.size : Int) < (a.size : Int) by omega)]
    exact Ev.now _
  | succ d ih =>
    intro i hi
    have B := basic (bt a) i
    have hnext := ih (i + 1) (by omega)
    have hst : st (bt a) (i + 1) = Th.step (st (bt a) i) i (bt a i) := rfl
    rw [hst] at hnext
    obtain ⟨lp, lq, ld, lr, lc, hc, hr⟩ := B
    generalize st (bt a) i = s at *
    refine Ev.succ ?_
    simp only [spec_l01Partners.l0, if_pos (show (i : Int) < (a.size : Int) by omega), if_pos (show (0 : Int) ≤ (i : Int) by omega), sCall_eq, sReturn_eq, Option.bind_some]
    by_cases hC : isC (bt a i) = true
    · have hR : isR (bt a i) = false := by
        cases h : isR (bt a i) with
        | false => rfl
        | true => rw [isR_notC h] at hC; cases hC
      simp only [hC, if_true]
      rw [w64 (by omega) (by omega)]
      simp only [if_pos (show s.p.length < 17592186044416 by omega), if_pos (show s.c.length < 17592186044416 by omega)]
      simp only [Th.step, hR, Bool.false_eq_true, if_false, hC, if_true] at hnext
      exact hnext
    · have hC' : isC (bt a i) = false := by simpa using hC
      simp only [hC', Bool.false_eq_true, if_false]
      by_cases hR : isR (bt a i) = true
      · simp only [hR, if_true]
        refine Ev.succ ?_
        simp only [spec_l01Partners.j1]
        by_cases he : s.c = []
        · simp only [he, List.length_nil, show decide (((0 : Nat) : Int) > 0) = false by decide, Bool.false_eq_true, if_false, if_pos (show (i : Int) < (a.size : Int) by omega), if_pos (show (0 : Int) ≤ (i : Int) by omega), sReturn_eq, Option.bind_some, hR, if_true, if_pos (show s.p.length < 17592186044416 by omega)]
          rw [w64 (by omega) (by omega)]
          simp only [Th.step, hR, if_true, he] at hnext
          exact hnext
        · have hl : 0 < s.c.length := List.length_pos_iff.2 he
          have ht := hc _ (top_mem he)
          rw [w64 (show -9223372036854775808 ≤ (s.c.length : Int) - 1 by omega) (by omega), w64 (by omega) (by omega)]
          simp only [show decide ((s.c.length : Int) > 0) = true by simp; omega, if_true, Option.bind_some,
            if_pos (show 0 ≤ (s.c.length : Int) - 1 by omega), if_pos (show (s.c.length : Int) - 1 < (s.c.length : Int) by omega), rd_last he, if_pos ht.1, if_pos (show top s.c < (s.p.length : Int) by omega), if_pos (show (s.c.length : Int) - 1 ≤ (s.c.length : Int) by omega), take_last, List.length_set, if_pos (show s.p.length < 17592186044416 by omega)]
          simp only [Th.step, hR, if_true, if_neg he] at hnext
          exact hnext
      · have hR' : isR (bt a i) = false := by simpa using hR
        simp only [hR', Bool.false_eq_true, if_false]
        refine Ev.succ ?_
        simp only [spec_l01Partners.j1, Bool.false_eq_true, if_false, if_pos (show (i : Int) < (a.size : Int) by omega), if_pos (show (0 : Int) ≤ (i : Int) by omega), sReturn_eq, Option.bind_some, hR', if_pos (show s.p.length < 17592186044416 by omega)]
        rw [w64 (by omega) (by omega)]
        simp only [Th.step, hR', Bool.false_eq_true, if_false, hC'] at hnext
        exact hnext

theorem partners_ev (a : ByteArray) (hn : a.size ≤ 1048576) : Ev (fun k => spec_l01Partners.f k a) (st (bt a) a.size).p := partners_loop a hn a.size 0 (by omega)

theorem g_rd (l : List Int) (i : Nat) : rd l i = g l i := by unfold rd g; simp

end Go.Proofs.Ytcaijfndmkdboaa.Br
namespace Go.Proofs.Ytcaijfndmkdboaa.Br
open Go.RowKit Go.Proofs.Ytcaijfndmkdboaa.T Go.Proofs.YtcaijfndmkdboaaW.PrintWords Go.Proofs.YtcaijfndmkdboaaW.PrintLast Go.Proofs.YtcaijfndmkdboaaW.PrintMore Go.Proofs.Ytcaijfndmkdboaa.Th
set_option linter.unusedVariables false
set_option linter.unusedSimpArgs false
theorem sn_size (l : List Int) : (strOfNums l).size = l.length := by
  simp [strOfNums, ByteArray.size]
theorem sn_bt {l : List Int} (h : ∀ x ∈ l, 0 ≤ x ∧ x ≤ 255) (j : Nat) : bt (strOfNums l) j = g l j := by
  by_cases hj : j < l.length
  · rw [bt_lt (by rw [sn_size]; exact hj)]
    have := h (l[j]) (List.getElem_mem _)
    simp [strOfNums, ByteArray.getElem_eq_getElem_data, g, List.getD_eq_getElem?_getD, hj]
    omega
  · rw [bt_ge (by rw [sn_size]; omega)]
    simp [g, List.getD_eq_getElem?_getD, hj]


/-- The bytes at places. -/
def at_ (a : ByteArray) (l : List Int) : List Int := l.map fun x => bt a x

/-- The greatest of some numbers and a first one. -/
def most (x : Int) (l : List Int) : Int := l.foldl mx x

end Go.Proofs.Ytcaijfndmkdboaa.Br
namespace Go.Proofs.Ytcaijfndmkdboaa.Br
open Go.RowKit Go.Proofs.Ytcaijfndmkdboaa.T Go.Proofs.YtcaijfndmkdboaaW.PrintWords Go.Proofs.YtcaijfndmkdboaaW.PrintLast Go.Proofs.YtcaijfndmkdboaaW.PrintMore Go.Proofs.Ytcaijfndmkdboaa.Th
set_option linter.unusedVariables false
set_option linter.unusedSimpArgs false
theorem u64_wrap (n : Int) : IntKind.u64.wrap n = n % 18446744073709551616 := by simp [IntKind.wrap, IntKind.bits, IntKind.signed]
theorem u64_range (n : Int) : 0 ≤ IntKind.u64.wrap n ∧ IntKind.u64.wrap n < 18446744073709551616 := by rw [u64_wrap]; omega
theorem and255 {x : Int} (h0 : 0 ≤ x) (h1 : x < 18446744073709551616) : Go.bits .and .u64 x 255 = x % 256 :=
  bits_mask .u64 64 (by decide) (fun n a b => by rw [u64_wrap]; omega) 8 (by decide) x h0 h1
theorem pick_bits (n : Int) : 0 ≤ wrap64 (Go.bits .and .u64 (IntKind.u64.wrap n / 1099511627776) 255) ∧ wrap64 (Go.bits .and .u64 (IntKind.u64.wrap n / 1099511627776) 255) ≤ 255 := by
  have h := u64_range n
  generalize IntKind.u64.wrap n = m at *
  have h2 : 0 ≤ m / 1099511627776 ∧ m / 1099511627776 < 18446744073709551616 := by omega
  rw [and255 h2.1 h2.2]
  unfold wrap64
  omega

/-- The bytes of a source. -/
def Bytes (s : List Int) : Prop := ∀ x ∈ s, 0 ≤ x ∧ x ≤ 255
theorem bytes_of_wf {s : List Int} (h : ∀ x ∈ s, (Lit.int .u8 x).wf = true) : Bytes s := by
  intro x hx
  have := h x hx
  simp [Lit.wf, IntKind.min, IntKind.max, IntKind.bits, IntKind.signed] at this
  omega
theorem bytes_rd {s : List Int} (h : Bytes s) (i : Int) : 0 ≤ rd s i ∧ rd s i ≤ 255 := by
  unfold rd
  rw [List.getD_eq_getElem?_getD]
  by_cases hi : i.toNat < s.length
  · rw [List.getElem?_eq_getElem hi]; exact h _ (List.getElem_mem _)
  · rw [List.getElem?_eq_none (by omega)]; simp

theorem next_ok {s : List Int} (hs : Bytes s) (at_ sd : Int) (h0 : 0 ≤ at_) (h1 : at_ ≤ 1099511627776) : ∃ v sd', spec_l00Src_next.f s at_ sd = some (v, at_ + 1, sd') ∧ 0 ≤ v ∧ v ≤ 255 := by
  have hb := bytes_rd hs at_
  have f1 : wrap64 (at_ + 1) = at_ + 1 := w64 (by omega) (by omega)
  have f2 : wrap64 (rd s at_) = rd s at_ := w64 (by omega) (by omega)
  unfold spec_l00Src_next.f
  rw [f1]
  split
  · first | rw [if_pos h0] | skip
    split
    · exact ⟨_, _, rfl, by rw [f2]; exact hb.1, by rw [f2]; exact hb.2⟩
    · exact ⟨_, _, rfl, (pick_bits _).1, (pick_bits _).2⟩
  · split
    · exact ⟨_, _, rfl, by omega, by omega⟩
    · exact ⟨_, _, rfl, (pick_bits _).1, (pick_bits _).2⟩

/-- A number below n, at most 200. -/
theorem pick_ok {s : List Int} (hs : Bytes s) (at_ sd n : Int) (h0 : 0 ≤ at_) (h1 : at_ ≤ 1099511627776) (hn : 1 ≤ n) (hn2 : n ≤ 200) :
    ∃ v at2 sd', spec_l00Src_pick.f s at_ sd n = some (v, at2, sd') ∧ 0 ≤ v ∧ v < n ∧ at_ ≤ at2 ∧ at2 ≤ at_ + 1 := by
  unfold spec_l00Src_pick.f
  by_cases h : n ≤ 1
  · rw [if_pos h]; exact ⟨0, at_, sd, rfl, by omega, by omega, by omega, by omega⟩
  · obtain ⟨v, sd', e, v0, v1⟩ := next_ok hs at_ sd h0 h1
    rw [if_neg h, e]
    simp only [Option.bind_some]
    rw [if_neg (by omega), if_neg (by omega)]
    refine ⟨_, _, _, rfl, ?_, ?_, by omega, by omega⟩
    · rw [Int.tmod_eq_emod_of_nonneg v0]; exact Int.emod_nonneg _ (by omega)
    · rw [Int.tmod_eq_emod_of_nonneg v0]; exact Int.emod_lt_of_pos _ (by omega)

theorem one_ok {s : List Int} (hs : Bytes s) (at_ sd n : Int) (h0 : 0 ≤ at_) (h1 : at_ ≤ 1099511627776) (hn : 1 ≤ n) (hn2 : n ≤ 200) :
    ∃ v at2 sd', spec_l00Src_one.f s at_ sd n = some (v, at2, sd') ∧ at_ ≤ at2 ∧ at2 ≤ at_ + 1 := by
  obtain ⟨v, at2, sd', e, _, _, a, b⟩ := pick_ok hs at_ sd n h0 h1 hn hn2
  unfold spec_l00Src_one.f
  rw [e]
  exact ⟨_, _, _, rfl, a, b⟩
theorem among_ok {s : List Int} (hs : Bytes s) (at_ sd : Int) (l : List Int) (h0 : 0 ≤ at_) (h1 : at_ ≤ 1099511627776) (hn : 1 ≤ l.length) (hn2 : l.length ≤ 200) :
    ∃ v at2 sd', spec_l00Src_among.f s at_ sd l = some (v, at2, sd') ∧ v ∈ l ∧ at_ ≤ at2 ∧ at2 ≤ at_ + 1 := by
  obtain ⟨v, at2, sd', e, v0, v1, a, b⟩ := pick_ok hs at_ sd l.length h0 h1 (by omega) (by omega)
  unfold spec_l00Src_among.f
  rw [e]
  simp only [Option.bind_some, if_pos v0, if_pos v1]
  refine ⟨_, _, _, rfl, ?_, a, b⟩
  obtain ⟨j, rfl⟩ := Int.eq_ofNat_of_zero_le v0
  unfold rd
  rw [Int.toNat_natCast, List.getD_eq_getElem?_getD, List.getElem?_eq_getElem (by omega)]
  exact List.getElem_mem _

/-- Symbols, as numbers. -/
def Syms (l : List Int) : Prop := ∀ x ∈ l, x = 40 ∨ x = 91 ∨ x = 41 ∨ x = 93 ∨ x = 97 ∨ x = 98
theorem syms_snoc {l : List Int} {x : Int} (h : Syms l) (hx : x = 40 ∨ x = 91 ∨ x = 41 ∨ x = 93 ∨ x = 97 ∨ x = 98) : Syms (l ++ [x]) := by
  intro y hy
  rcases List.mem_append.1 hy with hy | hy
  · exact h y hy
  · simp at hy; subst hy; exact hx
theorem okw_syms {l : List Int} (h : Syms l) (hl : l.length ≤ 60) : okw (strOfNums l) = true := by
  rw [okw_iff, sn_size]
  refine ⟨fun j hj => ?_, hl⟩
  rw [sn_bt (fun x hx => by rcases h x hx with r | r | r | r | r | r <;> omega)]
  have : g l j ∈ l := by unfold g; rw [List.getD_eq_getElem?_getD, List.getElem?_eq_getElem hj]; exact List.getElem_mem _
  unfold sym
  rcases h _ this with r | r | r | r | r | r <;> rw [r] <;> decide

/-- A drawn word: at most m symbols. -/
def Drawn (m : Nat) (r : ByteArray × Int × Int) : Prop := ∃ l : List Int, r.1 = strOfNums l ∧ Syms l ∧ l.length ≤ m

theorem drawn_l1 {s : List Int} (hs : Bytes s) (m : Nat) (hm : m ≤ 60) : ∀ d : Nat, ∀ (x5 : List Int) (x6 : Int) (x7 : Bool) (at_ sd : Int), x5.length + d = m → Syms x5 → 0 ≤ at_ → at_ + 2 * d ≤ 1000000 → -1000 ≤ x6 → x6 ≤ 1000 →
    ∃ r, Ev (fun k => spec_l01Drawn.l1 k m x5 x6 x7 s at_ sd) r ∧ Drawn m r := by
  intro d
  induction d with
  | zero =>
    intro x5 x6 x7 at_ sd hl hy h0 h1 _ _
    refine ⟨(strOfNums x5, at_, sd), Ev.succ ?_, x5, rfl, hy, by omega⟩
    have b1 : ¬ (x5.length : Int) < (m : Int) := by omega
    simp only [spec_l01Drawn.l1, if_neg b1]
    split
    · split <;> exact Ev.now _
    · exact Ev.now _
  | succ d ih =>
    intro x5 x6 x7 at_ sd hl hy h0 h1 h2 h3
    have b1 : (x5.length : Int) < (m : Int) := by omega
    by_cases c7 : x7 = true
    · by_cases c6 : x6 > 0
      · obtain ⟨v, at2, sd2, e, a1, a2⟩ := one_ok hs at_ sd 8 h0 (by omega) (by omega) (by omega)
        by_cases cv : v = true
        · refine ⟨(strOfNums x5, at2, sd2), Ev.succ ?_, x5, rfl, hy, by omega⟩
          simp only [spec_l01Drawn.l1, if_pos c7, if_pos c6, if_pos b1, e, Option.bind_some, if_pos cv]
          exact Ev.now _
        · obtain ⟨v2, at3, sd3, e2, v0, v1, a3, a4⟩ := pick_ok hs at2 sd2 2 (by omega) (by omega) (by omega) (by omega)
          have hx : bt (⟨#[41, 93]⟩ : ByteArray) v2 = 41 ∨ bt (⟨#[41, 93]⟩ : ByteArray) v2 = 93 := by
            have : v2 = 0 ∨ v2 = 1 := by omega
            rcases this with rfl | rfl
            · left; decide
            · right; decide
          have b4 : x5.length < 140737488355328 := by omega
          obtain ⟨r, er, dr⟩ := ih (x5 ++ [bt (⟨#[41, 93]⟩ : ByteArray) v2]) (x6 - 1) x7 at3 sd3 (by simp; omega) (syms_snoc hy (by omega)) (by omega) (by omega) (by omega) (by omega)
          have f1 : wrap64 (x6 - 1) = x6 - 1 := w64 (by omega) (by omega)
          refine ⟨r, Ev.succ ?_, dr⟩
          simp only [spec_l01Drawn.l1, if_pos c7, if_pos c6, if_pos b1, e, Option.bind_some, if_neg cv, e2, if_pos v0, if_pos v1, if_pos b4, f1]
          exact er
      · refine ⟨(strOfNums x5, at_, sd), Ev.succ ?_, x5, rfl, hy, by omega⟩
        simp only [spec_l01Drawn.l1, if_pos c7, if_neg c6]
        exact Ev.now _
    · refine ⟨(strOfNums x5, at_, sd), Ev.succ ?_, x5, rfl, hy, by omega⟩
      simp only [spec_l01Drawn.l1, if_neg c7]
      exact Ev.now _

theorem drawn_l0 {s : List Int} (hs : Bytes s) (m : Nat) (hm : m ≤ 60) : ∀ d : Nat, ∀ (x5 : List Int) (x6 : Int) (x7 : Bool) (at_ sd : Int), x5.length + d ≤ m → Syms x5 → 0 ≤ at_ → at_ + d ≤ 10000 → -200 + d ≤ x6 → x6 + d ≤ 200 →
    ∃ r, Ev (fun k => spec_l01Drawn.l0 k m x5 x6 x7 d s at_ sd) r ∧ Drawn m r := by
  intro d
  induction d with
  | zero =>
    intro x5 x6 x7 at_ sd hl hy h0 h1 h2 h3
    obtain ⟨r, er, dr⟩ := drawn_l1 hs m hm (m - x5.length) x5 x6 x7 at_ sd (by omega) hy h0 (by omega) (by omega) (by omega)
    refine ⟨r, Ev.succ ?_, dr⟩
    simp only [spec_l01Drawn.l0, if_neg (show ¬ ((0 : Nat) : Int) > 0 by decide)]
    exact er
  | succ d ih =>
    intro x5 x6 x7 at_ sd hl hy h0 h1 h2 h3
    obtain ⟨v, at2, sd2, e, hv, a1, a2⟩ := among_ok hs at_ sd [0, 1, 2, 2, 3, 4, 5] h0 (by omega) (by decide) (by decide)
    have hv' : 0 ≤ v ∧ v < 6 := by simp at hv; omega
    have hx : bt (⟨#[40, 91, 41, 93, 97, 98]⟩ : ByteArray) v = 40 ∨ bt (⟨#[40, 91, 41, 93, 97, 98]⟩ : ByteArray) v = 91 ∨ bt (⟨#[40, 91, 41, 93, 97, 98]⟩ : ByteArray) v = 41 ∨ bt (⟨#[40, 91, 41, 93, 97, 98]⟩ : ByteArray) v = 93 ∨ bt (⟨#[40, 91, 41, 93, 97, 98]⟩ : ByteArray) v = 97 ∨ bt (⟨#[40, 91, 41, 93, 97, 98]⟩ : ByteArray) v = 98 := by
      have : v = 0 ∨ v = 1 ∨ v = 2 ∨ v = 3 ∨ v = 4 ∨ v = 5 := by omega
      rcases this with rfl | rfl | rfl | rfl | rfl | rfl
      · left; decide
      · right; left; decide
      · right; right; left; decide
      · right; right; right; left; decide
      · right; right; right; right; left; decide
      · right; right; right; right; right; decide
    generalize hb : bt (⟨#[40, 91, 41, 93, 97, 98]⟩ : ByteArray) v = b at *
    have b4 : x5.length < 140737488355328 := by omega
    have step2 : ∀ c : Int, (c = 40 ∨ c = 91 ∨ c = 41 ∨ c = 93 ∨ c = 97 ∨ c = 98) → ∃ r, Ev (fun k => spec_l01Drawn.j2 k m x5 x6 x7 ((d + 1 : Nat) : Int) c s at2 sd2) r ∧ Drawn m r := by
      intro c hc
      have go : ∀ y : Int, -200 + d ≤ y → y + d ≤ 200 → ∃ r, Ev (fun k => spec_l01Drawn.l0 k m (x5 ++ [c]) y x7 d s at2 sd2) r ∧ Drawn m r :=
        fun y p q => ih (x5 ++ [c]) y x7 at2 sd2 (by simp; omega) (syms_snoc hy hc) (by omega) (by omega) p q
      obtain ⟨r1, e1, d1⟩ := go x6 (by omega) (by omega)
      obtain ⟨r2, e2, d2⟩ := go (x6 + 1) (by omega) (by omega)
      obtain ⟨r3, e3, d3⟩ := go (x6 - 1) (by omega) (by omega)
      have f1 : wrap64 (x6 + 1) = x6 + 1 := w64 (by omega) (by omega)
      have f2 : wrap64 (x6 - 1) = x6 - 1 := w64 (by omega) (by omega)
      have f3 : wrap64 (((d + 1 : Nat) : Int) - 1) = (d : Int) := by rw [w64 (by omega) (by omega)]; push_cast; omega
      have f4 : wrap64 (x6 + 1 - 1) = x6 := by rw [w64 (by omega) (by omega)]; omega
      have key : ∃ r, Ev (fun k => spec_l01Drawn.j2 (k + 1) m x5 x6 x7 ((d + 1 : Nat) : Int) c s at2 sd2) r ∧ Drawn m r := by
        simp only [spec_l01Drawn.j2, sCall_eq, sReturn_eq, Option.bind_some, if_pos b4, f1, f2, f3, f4]
        split
        · split
          · split
            · exact ⟨r1, e1, d1⟩
            · exact ⟨r2, e2, d2⟩
          · exact ⟨r2, e2, d2⟩
        · split
          · split
            · exact ⟨r3, e3, d3⟩
            · exact ⟨r1, e1, d1⟩
          · exact ⟨r1, e1, d1⟩
      obtain ⟨r, er, dr⟩ := key
      exact ⟨r, Ev.succ er, dr⟩
    have step1 : ∀ z : Bool, ∃ r, Ev (fun k => spec_l01Drawn.j1 k m x5 x6 x7 ((d + 1 : Nat) : Int) b z s at2 sd2) r ∧ Drawn m r := by
      intro z
      cases z with
      | true =>
        obtain ⟨r, er, dr⟩ := step2 40 (Or.inl rfl)
        exact ⟨r, Ev.succ (by simp only [spec_l01Drawn.j1, if_true]; exact er), dr⟩
      | false =>
        obtain ⟨r, er, dr⟩ := step2 b hx
        exact ⟨r, Ev.succ (by simp only [spec_l01Drawn.j1, Bool.false_eq_true, if_false]; exact er), dr⟩
    have key : ∃ r, Ev (fun k => spec_l01Drawn.l0 (k + 1) m x5 x6 x7 ((d + 1 : Nat) : Int) s at_ sd) r ∧ Drawn m r := by
      have b5 : ((d + 1 : Nat) : Int) > 0 := by omega
      simp only [spec_l01Drawn.l0, if_pos b5, e, Option.bind_some, if_pos hv'.1, if_pos hv'.2, sReturn_eq, hb]
      split
      · split
        · exact step1 _
        · exact step1 _
      · exact step1 _
    obtain ⟨r, er, dr⟩ := key
    exact ⟨r, Ev.succ er, dr⟩

/-- A drawn word is a word of at most m symbols. -/
theorem a2word (l : List Int) (hs : Bytes l) (m : Nat) (hm : m ≤ 60) : ∃ w, Ev (fun k => spec_A2Word.f k l m) w ∧ okw w = true ∧ w.size ≤ m := by
  obtain ⟨v, at2, sd2, e, a1, a2⟩ := one_ok hs 0 0 3 (by omega) (by omega) (by omega) (by omega)
  obtain ⟨v2, at3, sd3, e2, v0, v1, a3, a4⟩ := pick_ok hs at2 sd2 ((m : Int) + 1) (by omega) (by omega) (by omega) (by omega)
  obtain ⟨j, rfl⟩ := Int.eq_ofNat_of_zero_le v0
  obtain ⟨r, er, lst, q1, q2, q3⟩ := drawn_l0 hs m hm j [] 0 (!v) at3 sd3 (by simp; omega) (fun x hx => by simp at hx) (by omega) (by omega) (by omega) (by omega)
  have f1 : wrap64 ((m : Int) + 1) = (m : Int) + 1 := w64 (by omega) (by omega)
  refine ⟨r.1, ?_, by rw [q1]; exact okw_syms q2 (by omega), by rw [q1, sn_size]; exact q3⟩
  unfold spec_A2Word.f spec_l00From.f
  simp only [Option.bind_some]
  refine Ev.bind (a := r) ?_ (Ev.now _)
  unfold spec_l01Drawn.f
  simp only [e, Option.bind_some, f1, e2]
  exact er

end Go.Proofs.Ytcaijfndmkdboaa.Br
namespace Go.Proofs.Ytcaijfndmkdboaa.Th

/-- What is open at a place, behind its own return. -/
def opn (b : Int → Int) (i : Nat) : List Int := if isR (b i) = true then (st b i).c.dropLast else (st b i).c

theorem step_q (b : Int → Int) (i : Nat) : (st b (i + 1)).q = (st b i).q ++ [top (opn b i)] := by
  show (step (st b i) i (b i)).q = _
  unfold step opn
  by_cases hR : isR (b i) = true
  · by_cases he : (st b i).c = []
    · simp only [hR, if_true, he]
      rfl
    · simp only [hR, if_true, if_neg he]
  · by_cases hC : isC (b i) = true
    · simp only [hR, hC, if_true]
      rfl
    · simp only [hR, hC]
      rfl

theorem q_stable (b : Int → Int) (i : Nat) : ∀ d, g (st b (i + 1 + d)).q i = g (st b (i + 1)).q i
  | 0 => rfl
  | d + 1 => by
    have h := q_stable b i d
    rw [← h]
    show g (st b ((i + 1 + d) + 1)).q i = _
    rw [step_q, g_append_left]
    rw [(basic b (i + 1 + d)).lq]; omega

theorem opn_mem (b : Int → Int) (i : Nat) (k : Nat) (hk : k < i) : (k : Int) ∈ opn b i ↔ (k : Int) ∈ (st b (i + 1)).c := by
  show _ ↔ (k : Int) ∈ (step (st b i) i (b i)).c
  unfold opn step
  by_cases hR : isR (b i) = true
  · by_cases he : (st b i).c = []
    · simp [hR, he]
    · simp [hR, he]
  · by_cases hC : isC (b i) = true
    · simp only [hR, hC, if_true]
      simp
      omega
    · simp [hR, hC]

theorem opn_inc (b : Int → Int) (i : Nat) : (opn b i).Pairwise (· < ·) := by
  have h := (List.pairwise_append.1 (inv b i).inc).2.1
  unfold opn
  split
  · exact h.sublist (List.dropLast_sublist _)
  · exact h

theorem opn_lt (b : Int → Int) (i : Nat) : ∀ x ∈ opn b i, 0 ≤ x ∧ x < i := by
  intro x hx
  refine (basic b i).hc x ?_
  unfold opn at hx
  split at hx
  · exact List.dropLast_subset _ hx
  · exact hx

theorem opn_sel (b : Int → Int) {i n : Nat} (hi : i < n) : opn b i = sel (fun k => isC (b k) && (g (st b n).p k == -2 || decide ((i : Int) < g (st b n).p k))) i := by
  refine inc_ext (opn_inc b i) (sel_inc i) fun x => ?_
  rw [mem_sel]
  constructor
  · intro hx
    obtain ⟨h0, h1⟩ := opn_lt b i x hx
    obtain ⟨k, rfl⟩ := Int.eq_ofNat_of_zero_le h0
    have hk : k < i := by omega
    refine ⟨k, hk, rfl, ?_⟩
    have := (onstack b (i + 1) n (by omega) k (by omega)).1 ((opn_mem b i k hk).1 hx)
    obtain ⟨a1, a2⟩ := this
    simp only [a1, Bool.true_and, Bool.or_eq_true, beq_iff_eq, decide_eq_true_eq]
    rcases a2 with a2 | a2
    · exact Or.inl a2
    · right; omega
  · rintro ⟨k, hk, rfl, h⟩
    simp only [Bool.and_eq_true, Bool.or_eq_true, beq_iff_eq, decide_eq_true_eq] at h
    refine (opn_mem b i k hk).2 ((onstack b (i + 1) n (by omega) k (by omega)).2 ⟨h.1, ?_⟩)
    rcases h.2 with a2 | a2
    · exact Or.inl a2
    · right; omega

theorem parents_eq (b : Int → Int) {i n : Nat} (hi : i < n) : g (st b n).q i = top (sel (fun k => isC (b k) && (g (st b n).p k == -2 || decide ((i : Int) < g (st b n).p k))) i) := by
  obtain ⟨d, rfl⟩ := Nat.exists_eq_add_of_le (show i + 1 ≤ n by omega)
  rw [q_stable, step_q, g_append_end (basic b i).lq.symm, opn_sel b hi]

end Go.Proofs.Ytcaijfndmkdboaa.Th
namespace Go.Proofs.Ytcaijfndmkdboaa.Br
open Go.RowKit Go.Proofs.Ytcaijfndmkdboaa.T Go.Proofs.YtcaijfndmkdboaaW.PrintWords Go.Proofs.YtcaijfndmkdboaaW.PrintLast Go.Proofs.YtcaijfndmkdboaaW.PrintMore Go.Proofs.Ytcaijfndmkdboaa.Th
set_option linter.unusedVariables false
set_option linter.unusedSimpArgs false
/-- Behind the test for a word: what a function tells of a word, and what it tells else. -/
theorem sPartners_ev (a : ByteArray) (hn : a.size ≤ 1048576) : Ev (fun k => spec_PartnersOf.f k a) (if okw a = true then ((st (bt a) a.size).p, 0) else ([], 1)) := by
  unfold spec_PartnersOf.f
  refine Ev.bind (specOk_ev a hn) ?_
  by_cases h : okw a = true
  · simp only [h, if_true]
    exact Ev.bind (partners_ev a hn) (Ev.now _)
  · simp only [h, if_false]
    exact Ev.now _
theorem iPartners_ev (a : ByteArray) (hn : a.size ≤ 1048576) : Ev (fun k => impl_PartnersOf.f k a) (if okw a = true then ((st (bt a) a.size).p, 0) else ([], 1)) := by
  unfold impl_PartnersOf.f
  refine Ev.bind (valid_ev a hn) ?_
  by_cases h : okw a = true
  · simp only [h, if_true]
    exact Ev.bind (match_ev a hn) (Ev.now _)
  · simp only [h, if_false]
    exact Ev.now _
/-- Is a word matched. -/
def mtc (a : ByteArray) : Bool := ((((st (bt a) a.size).r.length : Int) + ((st (bt a) a.size).c.length : Int)) == 0)
theorem iMatched_ev (a : ByteArray) (hn : a.size ≤ 1048576) : Ev (fun k => impl_isMatched.f k a) (mtc a) := by
  unfold impl_isMatched.f
  refine Ev.bind (match_ev a hn) ?_
  have B := basic (bt a) a.size
  have h1 := B.lr
  have h2 := B.lc
  simp only
  rw [w64 (by omega) (by omega)]
  exact Ev.now _
theorem iIsMatched_ev (a : ByteArray) (hn : a.size ≤ 1048576) : Ev (fun k => impl_IsMatched.f k a) (if okw a = true then (mtc a, 0) else (false, 1)) := by
  unfold impl_IsMatched.f
  refine Ev.bind (valid_ev a hn) ?_
  by_cases h : okw a = true
  · simp only [h, if_true]
    exact Ev.bind (iMatched_ev a hn) (Ev.now _)
  · simp only [h, if_false]
    exact Ev.now _

theorem iParents_ev (a : ByteArray) (hn : a.size ≤ 1048576) : Ev (fun k => impl_ParentsOf.f k a) (if okw a = true then ((st (bt a) a.size).q, 0) else ([], 1)) := by
  unfold impl_ParentsOf.f
  refine Ev.bind (valid_ev a hn) ?_
  by_cases h : okw a = true
  · simp only [h, if_true]
    exact Ev.bind (match_ev a hn) (Ev.now _)
  · simp only [h, if_false]
    exact Ev.now _

theorem in_eq (a lo hi : Int) : spec_l00In.f a lo hi = some (decide (lo ≤ a ∧ a ≤ hi)) := by
  unfold spec_l00In.f
  by_cases h : a ≥ lo
  · rw [if_pos h]; congr 1; simp; omega
  · rw [if_neg h]; congr 1; simp; omega
theorem within_eq (a lo hi : Int) : impl_within.f a lo hi = some (decide (lo ≤ a ∧ a ≤ hi)) := by
  unfold impl_within.f
  by_cases h : a ≥ lo
  · rw [if_pos h]; congr 1; simp; omega
  · rw [if_neg h]; congr 1; simp; omega

theorem iChildren_loop (x : Int) (q : List Int) (hq : q.length ≤ 1048576) : ∀ d i : Nat, i + d = q.length →
    Ev (fun k => impl_ChildrenOf.l0 k x (sel (fun j => g q j == x) i) q q.length i) (sel (fun j => g q j == x) q.length, 0) := by
  intro d
  induction d with
  | zero =>
    intro i hi
    obtain rfl : i = q.length := by omega
    refine Ev.succ ?_
    simp only [impl_ChildrenOf.l0, if_neg (show ¬ (q.length : Int) < (q.length : Int) by omega)]
    exact Ev.now _
  | succ d ih =>
    intro i hi
    have hnext := ih (i + 1) (by omega)
    have hl := sel_len (f := fun j => g q j == x) i
    have b1 : (i : Int) < (q.length : Int) := by omega
    have b2 : (0 : Int) ≤ (i : Int) := by omega
    have b3 : (sel (fun j => g q j == x) i).length < 17592186044416 := by omega
    have f3 : wrap64 ((i : Int) + 1) = ((i + 1 : Nat) : Int) := by rw [w64 (by omega) (by omega)]; push_cast; rfl
    refine Ev.succ ?_
    simp only [impl_ChildrenOf.l0, if_pos b1, if_pos b2, if_pos b3, g_rd, f3]
    rw [sel] at hnext
    by_cases h : g q i = x
    · simp only [h, if_true]
      simp only [h, BEq.rfl, if_true] at hnext
      exact hnext
    · simp only [h, if_false]
      simp only [beq_eq_false_iff_ne.2 h, Bool.false_eq_true, if_false] at hnext
      exact hnext

/-- What ChildrenOf tells. -/
def childR (a : ByteArray) (x : Int) : List Int × Int :=
  if okw a = true then (if -1 ≤ x ∧ x ≤ (a.size : Int) - 1 then (sel (fun j => g (st (bt a) a.size).q j == x) a.size, 0) else ([], 2)) else ([], 1)
theorem iChildren_ev (a : ByteArray) (x : Int) (hn : a.size ≤ 1048576) : Ev (fun k => impl_ChildrenOf.f k a x) (childR a x) := by
  unfold impl_ChildrenOf.f childR
  refine Ev.bind (valid_ev a hn) ?_
  have B := basic (bt a) a.size
  have lq := B.lq
  have f1 : wrap64 ((a.size : Int) - 1) = (a.size : Int) - 1 := w64 (by omega) (by omega)
  by_cases h : okw a = true
  · simp only [h, if_true, f1, within_eq, Option.bind_some]
    by_cases h2 : -1 ≤ x ∧ x ≤ (a.size : Int) - 1
    · rw [if_pos h2, decide_eq_true h2]
      simp only [if_true]
      refine Ev.bind (match_ev a hn) ?_
      have := iChildren_loop x (st (bt a) a.size).q (by omega) (st (bt a) a.size).q.length 0 (Nat.zero_add _)
      rw [lq] at this
      simp only [lq]
      exact this
    · rw [if_neg h2, decide_eq_false h2]
      exact Ev.now _
  · simp only [h, if_false]
    exact Ev.now _

end Go.Proofs.Ytcaijfndmkdboaa.Br
namespace Go.Proofs.Ytcaijfndmkdboaa.Br
open Go.RowKit Go.Proofs.Ytcaijfndmkdboaa.T Go.Proofs.YtcaijfndmkdboaaW.PrintWords Go.Proofs.YtcaijfndmkdboaaW.PrintLast Go.Proofs.YtcaijfndmkdboaaW.PrintMore Go.Proofs.Ytcaijfndmkdboaa.Th
set_option linter.unusedVariables false
set_option linter.unusedSimpArgs false
theorem mtc_nil {a : ByteArray} (h : mtc a = true) : (st (bt a) a.size).r = [] ∧ (st (bt a) a.size).c = [] := by
  unfold mtc at h
  simp only [beq_iff_eq] at h
  constructor
  · apply List.eq_nil_of_length_eq_zero; omega
  · apply List.eq_nil_of_length_eq_zero; omega
/-- In a matched word nothing is pending: calls go ahead, all else does not. -/
theorem mtc_p {a : ByteArray} (h : mtc a = true) {i : Nat} (hi : i < a.size) : (isC (bt a i) = true → (i : Int) < g (st (bt a) a.size).p i ∧ g (st (bt a) a.size).p i < a.size) ∧ (isC (bt a i) = false → g (st (bt a) a.size).p i < i) := by
  have I := inv (bt a) a.size
  obtain ⟨h1, h2⟩ := mtc_nil h
  have n2 : g (st (bt a) a.size).p i ≠ -2 := by
    intro e
    have := (I.m2 i hi).1 e
    rw [h1, h2] at this
    simp at this
  have lo := I.lo i hi
  constructor
  · intro hC
    have n1 : g (st (bt a) a.size).p i ≠ -1 := by
      intro e
      have := (I.m1 i hi).1 e
      rw [hC] at this
      simp at this
    have := I.pos i hi (by omega)
    refine ⟨?_, this.1⟩
    rcases this.2.2 with h4 | h4
    · exact h4.2
    · rw [isR_notC h4.1] at hC; cases hC
  · intro hC
    by_cases h0 : 0 ≤ g (st (bt a) a.size).p i
    · have := I.pos i hi h0
      rcases this.2.2 with h4 | h4
      · rw [h4.1] at hC; cases hC
      · exact h4.2
    · omega

end Go.Proofs.Ytcaijfndmkdboaa.Br
namespace Go.Proofs.Ytcaijfndmkdboaa.Br
open Go.RowKit Go.Proofs.Ytcaijfndmkdboaa.T Go.Proofs.YtcaijfndmkdboaaW.PrintWords Go.Proofs.YtcaijfndmkdboaaW.PrintLast Go.Proofs.YtcaijfndmkdboaaW.PrintMore Go.Proofs.Ytcaijfndmkdboaa.Th
set_option linter.unusedVariables false
set_option linter.unusedSimpArgs false
theorem down {P : Nat → Prop} (n : Nat) (h0 : P n) (h1 : ∀ i, i < n → P (i + 1) → P i) : ∀ i, i ≤ n → P i := by
  have key : ∀ d i, i + d = n → P i := by
    intro d
    induction d with
    | zero => intro i hi; obtain rfl : i = n := by omega
              exact h0
    | succ d ih => intro i hi; exact h1 i (by omega) (ih (i + 1) (by omega))
  intro i hi
  exact key (n - i) i (by omega)
theorem up1 (i : Nat) (h : i < 9223372036854775807) : wrap64 ((i : Int) + 1) = ((i + 1 : Nat) : Int) := by
  rw [w64 (by omega) (by omega)]; rfl
theorem i0 (i : Nat) : 0 ≤ (i : Int) := by omega
theorem getD_mem {α : Type} (l : List α) (i : Nat) (d : α) (h : i < l.length) : l.getD i d ∈ l := by
  rw [List.getD_eq_getElem?_getD, List.getElem?_eq_getElem h]
  exact List.getElem_mem h
end Go.Proofs.Ytcaijfndmkdboaa.Br
namespace Go.Proofs.Ytcaijfndmkdboaa.Th

theorem step_c (s : St) (i b : Int) : (step s i b).c = if isR b = true then s.c.dropLast else if isC b = true then s.c ++ [i] else s.c := by
  unfold step
  split
  · split
    · rename_i h; rw [h]; rfl
    · rfl
  · split <;> rfl
theorem step_r (s : St) (i b : Int) : (step s i b).r = if isR b = true ∧ s.c = [] then s.r ++ [i] else s.r := by
  unfold step
  by_cases h : isR b = true
  · by_cases h2 : s.c = [] <;> simp [h, h2]
  · by_cases h3 : isC b = true <;> simp [h, h3]
theorem st_succ (b : Int → Int) (n : Nat) : st b (n + 1) = step (st b n) n (b n) := rfl
theorem st_congr {b b' : Int → Int} : ∀ n, (∀ j : Nat, j < n → b j = b' j) → st b n = st b' n
  | 0, _ => rfl
  | n + 1, h => by rw [st_succ, st_succ, st_congr n (fun j hj => h j (by omega)), h n (by omega)]
/-- From a place where nothing is open, the reading goes as that of what follows, alone. -/
theorem shift (b : Int → Int) (i : Nat) (h : (st b i).c = []) : ∀ m, (st b (i + m)).c = (st (fun j => b (i + j)) m).c.map (· + (i : Int)) ∧ (st b (i + m)).r = (st b i).r ++ (st (fun j => b (i + j)) m).r.map (· + (i : Int))
  | 0 => by simp [st, h]
  | m + 1 => by
    obtain ⟨h1, h2⟩ := shift b i h m
    rw [← Nat.add_assoc, st_succ, st_succ, step_c, step_c, step_r, step_r, h1, h2]
    have e : ((i + m : Nat) : Int) = (i : Int) + (m : Int) := by push_cast; rfl
    rw [e]
    constructor
    · split
      · rw [List.map_dropLast]
      · split
        · simp; omega
        · rfl
    · simp only [List.map_eq_nil_iff]
      split
      · simp; omega
      · rfl
theorem r_mono (b : Int → Int) (n : Nat) : ∀ m, ∃ l, (st b (n + m)).r = (st b n).r ++ l
  | 0 => ⟨[], by simp⟩
  | m + 1 => by
    obtain ⟨l, hl⟩ := r_mono b n m
    rw [← Nat.add_assoc, st_succ, step_r, hl]
    split
    · exact ⟨l ++ [((n + m : Nat) : Int)], by simp⟩
    · exact ⟨l, rfl⟩
theorem r_nil {b : Int → Int} {n m : Nat} (h : (st b m).r = []) (hn : n ≤ m) : (st b n).r = [] := by
  obtain ⟨d, rfl⟩ := Nat.exists_eq_add_of_le hn
  obtain ⟨l, hl⟩ := r_mono b n d
  rw [h] at hl
  have := List.append_eq_nil_iff.1 hl.symm
  exact this.1
/-- In a matched word: where nothing is open ahead of a call, nothing is open behind what it matches. -/
theorem call_end {b : Int → Int} {n i e : Nat} (hr : (st b n).r = []) (hc : (st b n).c = []) (hi : i < n) (h : (st b i).c = []) (hC : isC (b i) = true) (he : g (st b n).p i + 1 = e) (hen : e ≤ n) : (st b e).c = [] ∧ (i : Int) ∈ (st b (e - 1)).c := by
  have I := inv b n
  have B := basic b e
  have nopend : ∀ k : Nat, k < n → isC (b k) = true → (k : Int) < g (st b n).p k ∧ g (st b n).p (g (st b n).p k).toNat = k := by
    intro k hk hk2
    have n2 : g (st b n).p k ≠ -2 := by
      intro e2
      have := (I.m2 k hk).1 e2
      rw [hr, hc] at this
      simp at this
    have n1 : g (st b n).p k ≠ -1 := by
      intro e2
      have := (I.m1 k hk).1 e2
      rw [hk2] at this
      simp at this
    have := I.pos k hk (by have := I.lo k hk; omega)
    refine ⟨?_, this.2.1⟩
    rcases this.2.2 with h4 | h4
    · exact h4.2
    · rw [isR_notC h4.1] at hk2; cases hk2
  have hpi := nopend i hi hC
  have hin : (i : Int) ∈ (st b (e - 1)).c := (onstack b (e - 1) n (by omega) i (by omega)).2 ⟨hC, Or.inr (by omega)⟩
  refine ⟨?_, hin⟩
  -- what is on the stack ahead of the place that matches: i is its last
  have hE : e - 1 < n := by omega
  have hpe : g (st b n).p (e - 1 : Nat) = i := by
    have := hpi.2
    rwa [show (g (st b n).p i).toNat = e - 1 by omega] at this
  have hR : isR (b (e - 1 : Nat)) = true := by
    have := I.pos (e - 1) hE (by omega)
    rcases this.2.2 with h4 | h4
    · exact absurd h4.2 (by omega)
    · exact h4.1
  have hne : (st b (e - 1)).c ≠ [] := fun h0 => by rw [h0] at hin; cases hin
  apply List.eq_nil_iff_forall_not_mem.2
  intro x hx
  obtain ⟨x0, x1⟩ := B.hc x hx
  obtain ⟨k, rfl⟩ := Int.eq_ofNat_of_zero_le x0
  have hk : k < e := by omega
  obtain ⟨q1, q2⟩ := (onstack b e n hen k hk).1 hx
  have hpk := nopend k (by omega) q1
  have q2' : (e : Int) ≤ g (st b n).p k := by rcases q2 with q | q <;> omega
  by_cases hki : k < i
  · -- k would have been open at i
    have : (k : Int) ∈ (st b i).c := (onstack b i n (by omega) k hki).2 ⟨q1, Or.inr (by omega)⟩
    rw [h] at this; cases this
  · by_cases hke : k = i
    · subst hke; omega
    · -- k lies behind i on the stack, and stays there: but the place that matches i takes the last one
      have hkc : (k : Int) ∈ (st b (e - 1)).c := by
        by_cases h5 : k = e - 1
        · rw [h5] at q1
          have := isR_notC hR
          rw [q1] at this; cases this
        · exact (onstack b (e - 1) n (by omega) k (by omega)).2 ⟨q1, Or.inr (by omega)⟩
      have inc := (inv b (e - 1)).inc
      have hs : st b e = step (st b (e - 1)) ((e - 1 : Nat) : Int) (b (e - 1 : Nat)) := by
        obtain ⟨d, rfl⟩ : ∃ d, e = d + 1 := ⟨e - 1, by omega⟩
        rfl
      have hce : (st b e).c = (st b (e - 1)).c.dropLast := by rw [hs, step_c, if_pos hR]
      have ht := dropLast_top hne
      -- i is not on the stack behind it
      have hni : (i : Int) ∉ (st b e).c := fun h6 => by
        have := (onstack b e n hen i (by omega)).1 h6
        rcases this.2 with h7 | h7 <;> omega
      rw [← ht] at hin
      have hti : (i : Int) = top (st b (e - 1)).c := by
        rcases List.mem_append.1 hin with h6 | h6
        · rw [← hce] at h6; exact absurd h6 hni
        · simpa using h6
      have incc : (st b (e - 1)).c.Pairwise (· < ·) := (List.pairwise_append.1 inc).2.1
      rw [← ht] at incc
      have hx' := hx
      rw [hce] at hx'
      have := pw_mem incc _ hx'
      omega
end Go.Proofs.Ytcaijfndmkdboaa.Th
namespace Go.Proofs.Ytcaijfndmkdboaa.Br
open Go.RowKit Go.Proofs.Ytcaijfndmkdboaa.T Go.Proofs.YtcaijfndmkdboaaW.PrintWords Go.Proofs.YtcaijfndmkdboaaW.PrintLast Go.Proofs.YtcaijfndmkdboaaW.PrintMore Go.Proofs.Ytcaijfndmkdboaa.Th
set_option linter.unusedVariables false
set_option linter.unusedSimpArgs false
/-- How many words of n symbols close d open calls, for depths up to L. -/
def wy (L : Nat) : Nat → Nat → Int
  | 0, d => if d = 0 then 1 else 0
  | n + 1, d => if d ≤ L then 2 * wy L n d + 2 * wy L n (d + 1) + (if d = 0 then 0 else 2 * wy L n (d - 1)) else 0
theorem wy_range (L : Nat) : ∀ n d, 0 ≤ wy L n d ∧ wy L n d ≤ 6 ^ n
  | 0, d => by unfold wy; split <;> simp
  | n + 1, d => by
    have h0 := wy_range L n d
    have h1 := wy_range L n (d + 1)
    have h2 := wy_range L n (d - 1)
    have e : (6 : Int) ^ (n + 1) = 6 * 6 ^ n := by rw [Int.pow_succ]; omega
    rw [e]
    unfold wy
    generalize (6 : Int) ^ n = B at *
    split
    · split <;> omega
    · omega
theorem pow_le (n : Nat) (h : n ≤ 20) : (6 : Int) ^ n ≤ 3656158440062976 := by
  have h1 : (6 : Nat) ^ n ≤ 6 ^ 20 := Nat.pow_le_pow_right (by decide) h
  have h2 : (6 : Nat) ^ 20 = 3656158440062976 := by decide
  have h3 : ((6 ^ n : Nat) : Int) = (6 : Int) ^ n := by push_cast; rfl
  omega
theorem wy_small (L n d : Nat) (h : n ≤ 20) : 0 ≤ wy L n d ∧ wy L n d ≤ 3656158440062976 := by
  have := wy_range L n d
  have := pow_le n h
  omega
def rowW (L n : Nat) : List Int := (List.range (L + 2)).map (wy L n)
def prow (L n d : Nat) : List Int := (List.range (L + 2)).map (fun e => if e < d then wy L n e else 0)
def tab (L m : Nat) : List (List Int) := (List.range m).map (rowW L)
theorem rowW_len (L n : Nat) : (rowW L n).length = L + 2 := by simp [rowW]
theorem prow_len (L n d : Nat) : (prow L n d).length = L + 2 := by simp [prow]
theorem tab_len (L m : Nat) : (tab L m).length = m := by simp [tab]
theorem rd_range (f : Nat → Int) (N d : Nat) (h : d < N) : rd ((List.range N).map f) d = f d := by
  unfold rd
  rw [Int.toNat_natCast, List.getD_eq_getElem?_getD, List.getElem?_map, List.getElem?_range h]
  rfl
theorem rdL_tab (L m n : Nat) (h : n < m) : rd_L2 (tab L m) n = rowW L n := by
  unfold rd_L2 tab
  rw [Int.toNat_natCast, List.getD_eq_getElem?_getD, List.getElem?_map, List.getElem?_range h]
  rfl
theorem prow_zero (L n : Nat) : prow L n 0 = List.replicate (L + 2) 0 := by
  unfold prow
  apply List.ext_getElem
  · simp
  · intro i h1 h2; simp
theorem prow_set (L n d : Nat) (h : d ≤ L) : (prow L n d).set d (wy L n d) = prow L n (d + 1) := by
  unfold prow
  apply List.ext_getElem
  · simp
  · intro i h1 h2
    rw [List.getElem_set]
    simp only [List.getElem_map, List.getElem_range]
    by_cases e : d = i
    · subst e; simp
    · rw [if_neg e]
      by_cases e2 : i < d
      · rw [if_pos e2, if_pos (by omega)]
      · rw [if_neg e2, if_neg (by omega)]
theorem prow_all (L n : Nat) (hn : 1 ≤ n) : prow L n (L + 1) = rowW L n := by
  unfold prow rowW
  apply List.ext_getElem
  · simp
  · intro i h1 h2
    simp only [List.getElem_map, List.getElem_range]
    by_cases e : i < L + 1
    · rw [if_pos e]
    · rw [if_neg e]
      obtain ⟨m, rfl⟩ : ∃ m, n = m + 1 := ⟨n - 1, by omega⟩
      unfold wy
      rw [if_neg (by omega)]
theorem row_first (L : Nat) : (List.replicate (L + 2) (0 : Int)).set 0 1 = rowW L 0 := by
  unfold rowW
  apply List.ext_getElem
  · simp
  · intro i h1 h2
    rw [List.getElem_set]
    simp only [List.getElem_map, List.getElem_range, List.getElem_replicate]
    unfold wy
    by_cases e : i = 0
    · subst e; simp
    · rw [if_neg (fun h => e h.symm), if_neg e]
theorem tab_succ (L m : Nat) : tab L (m + 1) = tab L m ++ [rowW L m] := by
  unfold tab
  rw [List.range_succ, List.map_append]
  rfl

theorem ways_l1 (L : Nat) (hL : L ≤ 20) (n : Nat) (hn : n + 1 ≤ L) (R : List (List Int)) (hR : Ev (fun k => spec_l01Ways.l0 k L (tab L (n + 2)) ((n + 2 : Nat) : Int)) R) :
    ∀ d, d ≤ L + 1 → Ev (fun k => spec_l01Ways.l1 k L (tab L (n + 1)) ((n + 1 : Nat) : Int) (prow L (n + 1) d) d) R := by
  have hw : ∀ d, 0 ≤ wy L n d ∧ wy L n d ≤ 3656158440062976 := fun d => wy_small L n d (by omega)
  have b0 : ((n + 1 : Nat) : Int) > 0 := by omega
  have b1 : (n : Int) < ((tab L (n + 1)).length : Int) := by rw [tab_len]; omega
  have b2 : (tab L (n + 1)).length < 5864062014805 := by rw [tab_len]; omega
  have b3 : ¬ ((L + 1 : Nat) : Int) ≤ (L : Int) := by omega
  have hall := prow_all L (n + 1) (by omega)
  have b4 : n < n + 1 := by omega
  have f1 : wrap64 (((n + 1 : Nat) : Int) - 1) = (n : Int) := by rw [w64 (by omega) (by omega)]; push_cast; omega
  have f2 : wrap64 (((n + 1 : Nat) : Int) + 1) = ((n + 2 : Nat) : Int) := by rw [w64 (by omega) (by omega)]; push_cast; omega
  refine down (L + 1) ?_ ?_
  · refine Ev.succ ?_
    simp only [spec_l01Ways.l1, if_pos b0, decide_eq_false b3]
    refine Ev.succ ?_
    simp only [spec_l01Ways.j3, Bool.false_eq_true, if_false, if_pos b2, f2]
    rw [hall, ← tab_succ]
    exact hR
  · intro d hd ih
    have q0 := hw d
    have q1 := hw (d + 1)
    have q2 := hw (d - 1)
    have hdL : d ≤ L := by clear f1 f2; omega
    have c0 : (d : Int) ≤ (L : Int) := by clear f1 f2; omega
    have c1 : d < L + 2 := by clear f1 f2; omega
    have c2 : d + 1 < L + 2 := by clear f1 f2; omega
    have c3 : d - 1 < L + 2 := by clear f1 f2; omega
    have e2 : rd (rowW L n) d = wy L n d := rd_range _ _ _ c1
    have e3 : rd (rowW L n) ((d + 1 : Nat) : Int) = wy L n (d + 1) := rd_range _ _ _ c2
    have e4 : rd (rowW L n) ((d - 1 : Nat) : Int) = wy L n (d - 1) := rd_range _ _ _ c3
    have g1 : (d : Int) < ((rowW L n).length : Int) := by rw [rowW_len]; exact_mod_cast c1
    have g2 : ((d + 1 : Nat) : Int) < ((rowW L n).length : Int) := by rw [rowW_len]; exact_mod_cast c2
    have g3 : (d : Int) < ((prow L (n + 1) d).length : Int) := by rw [prow_len]; exact_mod_cast c1
    have g4 : ((d - 1 : Nat) : Int) < ((rowW L n).length : Int) := by rw [rowW_len]; exact_mod_cast c3
    have e5 : ∀ v : Int, rd ((prow L (n + 1) d).set d v) d = v := by
      intro v
      unfold rd
      rw [Int.toNat_natCast, List.getD_eq_getElem?_getD, List.getElem?_set_self (by rw [prow_len]; exact c1)]
      rfl
    have ed : wy L (n + 1) d = 2 * wy L n d + 2 * wy L n (d + 1) + (if d = 0 then 0 else 2 * wy L n (d - 1)) := by
      conv => lhs; unfold wy
      rw [if_pos hdL]
    have hset := prow_set L (n + 1) d hdL
    have u1 := up1 d (by clear f1 f2; omega)
    generalize wy L n d = A at *
    generalize wy L n (d + 1) = B at *
    generalize wy L n (d - 1) = C at *
    have f3 : wrap64 (2 * A) = 2 * A := w64 (by clear f1 f2 u1; omega) (by clear f1 f2 u1; omega)
    have f4 : wrap64 (2 * B) = 2 * B := w64 (by clear f1 f2 u1 f3; omega) (by clear f1 f2 u1 f3; omega)
    have f5 : wrap64 (2 * A + 2 * B) = 2 * A + 2 * B := w64 (by clear f1 f2 u1 f3 f4; omega) (by clear f1 f2 u1 f3 f4; omega)
    have f7 : wrap64 (2 * C) = 2 * C := w64 (by clear f1 f2 u1 f3 f4 f5; omega) (by clear f1 f2 u1 f3 f4 f5; omega)
    have f8 : wrap64 (2 * A + 2 * B + 2 * C) = 2 * A + 2 * B + 2 * C := w64 (by clear f1 f2 u1 f3 f4 f5 f7; omega) (by clear f1 f2 u1 f3 f4 f5 f7; omega)
    refine Ev.succ ?_
    simp only [spec_l01Ways.l1, if_pos b0, decide_eq_true c0]
    refine Ev.succ ?_
    simp only [spec_l01Ways.j3, if_true, f1, if_pos (i0 n), if_pos b1, if_pos (i0 d), rdL_tab L (n + 1) n b4, if_pos g1, u1, if_pos (i0 (d + 1)), if_pos g2, if_pos g3, e2, e3, f3, f4, f5, Option.bind_some, Int.toNat_natCast]
    by_cases d0 : d = 0
    · subst d0
      rw [if_pos rfl, Int.add_zero] at ed
      simp only [Int.natCast_zero, show ¬ ((0 : Int) > 0) by decide, if_false]
      rw [ed] at hset
      rw [hset]
      exact ih
    · rw [if_neg d0] at ed
      have h1 : (d : Int) > 0 := by clear f1 f2 u1 f3 f4 f5 f7 f8; omega
      have f6 : wrap64 ((d : Int) - 1) = ((d - 1 : Nat) : Int) := by clear f1 f2 u1 f3 f4 f5 f7 f8; rw [w64 (by omega) (by omega)]; omega
      simp only [if_pos h1, f6, if_pos (i0 (d - 1)), if_pos g4, e4, f7, e5, f8, List.set_set]
      rw [ed] at hset
      rw [hset]
      exact ih
theorem ways_ev (L : Nat) (hL : L ≤ 20) : Ev (fun k => spec_l01Ways.f k L) (tab L (L + 1)) := by
  have f0 : wrap64 ((L : Int) + 2) = ((L + 2 : Nat) : Int) := by rw [w64 (by omega) (by omega)]; push_cast; rfl
  have loop : ∀ n, n ≤ L + 1 → Ev (fun k => spec_l01Ways.l0 k L (tab L n) n) (tab L (L + 1)) := by
    refine down (L + 1) ?_ ?_
    · refine Ev.succ ?_
      simp only [spec_l01Ways.l0, if_neg (show ¬ ((L + 1 : Nat) : Int) ≤ (L : Int) by omega)]
      exact Ev.now _
    · intro n hn ih
      refine Ev.succ ?_
      simp only [spec_l01Ways.l0, if_pos (show (n : Int) ≤ (L : Int) by omega), f0, if_pos (i0 (L + 2)), Int.toNat_natCast, if_pos (show L + 2 ≤ 35184372088832 by omega), Option.bind_some]
      by_cases n0 : n = 0
      · subst n0
        simp only [Int.natCast_zero, if_true, List.length_replicate, if_pos (show (0 : Int) < ((L + 2 : Nat) : Int) by omega), Int.toNat_zero]
        rw [row_first]
        refine Ev.succ ?_
        simp only [spec_l01Ways.j1]
        refine Ev.succ ?_
        simp only [spec_l01Ways.l1, show ¬ ((0 : Int) > 0) by decide, if_false]
        refine Ev.succ ?_
        have u0 : wrap64 ((0 : Int) + 1) = ((0 + 1 : Nat) : Int) := by rw [w64 (by decide) (by decide)]; rfl
        simp only [spec_l01Ways.j3, Bool.false_eq_true, if_false, if_pos (show (tab L 0).length < 5864062014805 by rw [tab_len]; omega), u0]
        rw [← tab_succ]
        exact ih
      · obtain ⟨m, rfl⟩ : ∃ m, n = m + 1 := ⟨n - 1, by omega⟩
        simp only [if_neg (show ¬ ((m + 1 : Nat) : Int) = 0 by omega)]
        refine Ev.succ ?_
        simp only [spec_l01Ways.j1]
        have := ways_l1 L hL m (by omega) _ ih 0 (by omega)
        rw [prow_zero] at this
        exact this
  unfold spec_l01Ways.f
  exact loop 0 (by omega)

/-- A list of symbols of which all returns match, with d open calls. -/
def gl (l : List Int) : Int → Int := fun j => g l j.toNat
def Opn (l : List Int) (d : Nat) : Prop := Syms l ∧ (st (gl l) l.length).r = [] ∧ (st (gl l) l.length).c.length = d
/-- The depth behind a symbol, -1 if there is none. -/
def nx (d : Nat) (c : Int) : Int := if isC c = true then (d : Int) + 1 else if isR c = true then (d : Int) - 1 else d
theorem opn_snoc {l : List Int} {d e : Nat} {c : Int} (h : Opn l d) (hc : c = 40 ∨ c = 91 ∨ c = 41 ∨ c = 93 ∨ c = 97 ∨ c = 98) (he : nx d c = e) : Opn (l ++ [c]) e := by
  obtain ⟨h1, h2, h3⟩ := h
  have e1 : (l ++ [c]).length = l.length + 1 := by simp
  have e2 : st (gl (l ++ [c])) l.length = st (gl l) l.length := by
    refine st_congr _ fun j hj => ?_
    unfold gl
    rw [Int.toNat_natCast]
    exact g_append_left hj
  have e3 : gl (l ++ [c]) (l.length : Int) = c := by
    unfold gl
    rw [Int.toNat_natCast]
    exact g_append_end rfl
  refine ⟨syms_snoc h1 hc, ?_, ?_⟩
  · rw [e1, st_succ, step_r, e2, e3, h2]
    by_cases hR : isR c = true
    · have hC := isR_notC hR
      unfold nx at he
      rw [if_neg (by rw [hC]; decide), if_pos hR] at he
      have : (st (gl l) l.length).c ≠ [] := fun h0 => by rw [h0] at h3; simp at h3; omega
      rw [if_neg (fun h => this h.2)]
    · rw [if_neg (fun h => hR h.1)]
  · rw [e1, st_succ, step_c, e2, e3]
    unfold nx at he
    by_cases hR : isR c = true
    · have hC := isR_notC hR
      rw [if_neg (by rw [hC]; decide), if_pos hR] at he
      rw [if_pos hR, List.length_dropLast]
      omega
    · rw [if_neg hR]
      by_cases hC : isC c = true
      · rw [if_pos hC] at he
        rw [if_pos hC, List.length_append]
        simp; omega
      · rw [if_neg hC, if_neg hR] at he
        rw [if_neg hC]
        omega
theorem syms_byte {l : List Int} (h : Syms l) : ∀ x ∈ l, 0 ≤ x ∧ x ≤ 255 := fun x hx => by
  rcases h x hx with r | r | r | r | r | r <;> omega
theorem opn_mtc {l : List Int} (h : Opn l 0) : mtc (strOfNums l) = true := by
  obtain ⟨h1, h2, h3⟩ := h
  unfold mtc
  rw [sn_size, st_congr (b' := gl l) l.length (fun j hj => by rw [sn_bt (syms_byte h1)]; unfold gl; rw [Int.toNat_natCast]), h2, h3]
  decide
/-- What the words with a symbol next are in number. -/
def ow (L n d : Nat) (x : Nat) : Int := if nx d (bt (⟨#[40, 91, 41, 93, 97, 98]⟩ : ByteArray) x) < 0 then 0 else wy L n (nx d (bt (⟨#[40, 91, 41, 93, 97, 98]⟩ : ByteArray) x)).toNat
def rem (L n d : Nat) : Nat → Int
  | 0 => 0
  | m + 1 => ow L n d (5 - m) + rem L n d m
theorem rem_step (L n d x : Nat) (h : x < 6) : rem L n d (6 - x) = ow L n d x + rem L n d (6 - (x + 1)) := by
  obtain ⟨m, hm⟩ : ∃ m, 6 - x = m + 1 := ⟨5 - x, by omega⟩
  rw [hm, show 6 - (x + 1) = m by omega, rem, show 5 - m = x by omega]
theorem rem_all (L n d : Nat) (h : d ≤ L) : wy L (n + 1) d = rem L n d 6 := by
  have s0 : bt (⟨#[40, 91, 41, 93, 97, 98]⟩ : ByteArray) ((0 : Nat) : Int) = 40 := by decide
  have s1 : bt (⟨#[40, 91, 41, 93, 97, 98]⟩ : ByteArray) ((1 : Nat) : Int) = 91 := by decide
  have s2 : bt (⟨#[40, 91, 41, 93, 97, 98]⟩ : ByteArray) ((2 : Nat) : Int) = 41 := by decide
  have s3 : bt (⟨#[40, 91, 41, 93, 97, 98]⟩ : ByteArray) ((3 : Nat) : Int) = 93 := by decide
  have s4 : bt (⟨#[40, 91, 41, 93, 97, 98]⟩ : ByteArray) ((4 : Nat) : Int) = 97 := by decide
  have s5 : bt (⟨#[40, 91, 41, 93, 97, 98]⟩ : ByteArray) ((5 : Nat) : Int) = 98 := by decide
  have o0 : ow L n d 0 = wy L n (d + 1) := by
    unfold ow; rw [s0, show nx d 40 = (d : Int) + 1 from rfl, if_neg (by omega)]; congr 1
  have o1 : ow L n d 1 = wy L n (d + 1) := by
    unfold ow; rw [s1, show nx d 91 = (d : Int) + 1 from rfl, if_neg (by omega)]; congr 1
  have o2 : ow L n d 2 = if d = 0 then 0 else wy L n (d - 1) := by
    unfold ow; rw [s2, show nx d 41 = (d : Int) - 1 from rfl]
    by_cases h0 : d = 0
    · rw [if_pos h0, if_pos (by omega)]
    · rw [if_neg h0, if_neg (by omega)]; congr 1; omega
  have o3 : ow L n d 3 = if d = 0 then 0 else wy L n (d - 1) := by
    unfold ow; rw [s3, show nx d 93 = (d : Int) - 1 from rfl]
    by_cases h0 : d = 0
    · rw [if_pos h0, if_pos (by omega)]
    · rw [if_neg h0, if_neg (by omega)]; congr 1; omega
  have o4 : ow L n d 4 = wy L n d := by
    unfold ow; rw [s4, show nx d 97 = (d : Int) from rfl, if_neg (by omega)]; congr 1
  have o5 : ow L n d 5 = wy L n d := by
    unfold ow; rw [s5, show nx d 98 = (d : Int) from rfl, if_neg (by omega)]; congr 1
  simp only [rem, Nat.reduceSub, o0, o1, o2, o3, o4, o5]
  conv => lhs; unfold wy
  rw [if_pos h]
  by_cases h0 : d = 0
  · simp only [if_pos h0]; omega
  · simp only [if_neg h0]; omega
theorem next_eq (d : Nat) (hd : d ≤ 100) (c : Int) : spec_l01Next.f d c = some (nx d c) := by
  have f1 : wrap64 ((d : Int) + 1) = (d : Int) + 1 := w64 (by omega) (by omega)
  have f2 : wrap64 ((d : Int) - 1) = (d : Int) - 1 := w64 (by omega) (by omega)
  unfold spec_l01Next.f nx
  simp only [sCall_eq, sReturn_eq, Option.bind_some, f1, f2]
  split
  · rfl
  · split <;> rfl
theorem sym_of (x : Nat) (h : x < 6) : bt (⟨#[40, 91, 41, 93, 97, 98]⟩ : ByteArray) x = 40 ∨ bt (⟨#[40, 91, 41, 93, 97, 98]⟩ : ByteArray) x = 91 ∨ bt (⟨#[40, 91, 41, 93, 97, 98]⟩ : ByteArray) x = 41 ∨ bt (⟨#[40, 91, 41, 93, 97, 98]⟩ : ByteArray) x = 93 ∨ bt (⟨#[40, 91, 41, 93, 97, 98]⟩ : ByteArray) x = 97 ∨ bt (⟨#[40, 91, 41, 93, 97, 98]⟩ : ByteArray) x = 98 := by
  have : x = 0 ∨ x = 1 ∨ x = 2 ∨ x = 3 ∨ x = 4 ∨ x = 5 := by omega
  rcases this with rfl | rfl | rfl | rfl | rfl | rfl
  · left; decide
  · right; left; decide
  · right; right; left; decide
  · right; right; right; left; decide
  · right; right; right; right; left; decide
  · right; right; right; right; right; decide
theorem matchedAt_loop (L : Nat) (hL : L ≤ 20) : ∀ n, ∀ (l : List Int) (d : Nat) (q : Int), Opn l d → d + n ≤ L → l.length + n = L → 0 ≤ q → q < wy L n d →
    ∃ w, Ev (fun k => spec_MatchedAt.l0 k q (tab L (L + 1)) l d n) (w, 0) ∧ okw w = true ∧ mtc w = true ∧ w.size ≤ 20 := by
  intro n
  induction n with
  | zero =>
    intro l d q ho _ hl h0 h1
    have hd : d = 0 := by
      unfold wy at h1
      by_cases h : d = 0
      · exact h
      · rw [if_neg h] at h1; omega
    subst hd
    refine ⟨strOfNums l, Ev.succ ?_, okw_syms ho.1 (by omega), opn_mtc ho, by rw [sn_size]; omega⟩
    simp only [spec_MatchedAt.l0, show ¬ (((0 : Nat) : Int) > 0) by decide, if_false]
    exact Ev.now _
  | succ n ih =>
    intro l d q ho hd hl h0 h1
    have f1 : wrap64 (((n + 1 : Nat) : Int) - 1) = (n : Int) := by rw [w64 (by omega) (by omega)]; push_cast; omega
    have inner : ∀ x, x ≤ 6 → ∀ q : Int, 0 ≤ q → q < rem L n d (6 - x) → ∃ w, Ev (fun k => spec_MatchedAt.l1 k q (tab L (L + 1)) l d ((n + 1 : Nat) : Int) x) (w, 0) ∧ okw w = true ∧ mtc w = true ∧ w.size ≤ 20 := by
      refine down 6 ?_ ?_
      · intro q q0 q1
        simp only [Nat.sub_self, rem] at q1
        omega
      · intro x hx ihx q q0 q1
        rw [rem_step L n d x hx] at q1
        have hs := sym_of x hx
        have hn2 : nx d (bt (⟨#[40, 91, 41, 93, 97, 98]⟩ : ByteArray) x) ≤ (d : Int) + 1 := by
          unfold nx
          split
          · omega
          · split <;> omega
        by_cases hneg : nx d (bt (⟨#[40, 91, 41, 93, 97, 98]⟩ : ByteArray) x) < 0
        · have ho0 : ow L n d x = 0 := by unfold ow; rw [if_pos hneg]
          obtain ⟨w, hw, r⟩ := ihx q q0 (by omega)
          refine ⟨w, Ev.succ ?_, r⟩
          simp only [spec_MatchedAt.l1, if_pos (show (x : Int) < 6 by omega), if_pos (i0 x), next_eq d (by omega), Option.bind_some, if_pos hneg, up1 x (by omega)]
          exact hw
        · obtain ⟨e, he⟩ := Int.eq_ofNat_of_zero_le (show 0 ≤ nx d (bt (⟨#[40, 91, 41, 93, 97, 98]⟩ : ByteArray) x) by omega)
          have ho1 : ow L n d x = wy L n e := by
            unfold ow; rw [if_neg hneg, he, Int.toNat_natCast]
          have er : rd (rowW L n) (e : Int) = wy L n e := rd_range _ _ _ (by omega)
          have g1 : (e : Int) < ((rowW L n).length : Int) := by rw [rowW_len]; omega
          by_cases hq : q < wy L n e
          · obtain ⟨w, hw, r⟩ := ih (l ++ [bt (⟨#[40, 91, 41, 93, 97, 98]⟩ : ByteArray) x]) e q (opn_snoc ho hs he) (by omega) (by simp; omega) q0 hq
            refine ⟨w, Ev.succ ?_, r⟩
            simp only [spec_MatchedAt.l1, if_pos (show (x : Int) < 6 by omega), if_pos (i0 x), next_eq d (by omega), Option.bind_some, if_neg hneg, f1, if_pos (i0 n), if_pos (show (n : Int) < ((tab L (L + 1)).length : Int) by rw [tab_len]; omega), he, if_pos (i0 e), rdL_tab L (L + 1) n (by omega), if_pos g1, er, if_pos hq, if_pos (show l.length < 140737488355328 by omega)]
            simp only [if_neg (show ¬ (e : Int) < 0 by omega)]
            exact hw
          · have hb := wy_small L n e (by omega)
            have f2 : wrap64 (q - wy L n e) = q - wy L n e := by
              have hq2 : q < 4611686018427387904 := by
                have hr : ∀ m, m ≤ 6 → rem L n d m ≤ m * 3656158440062976 := by
                  intro m
                  induction m with
                  | zero => intro _; simp [rem]
                  | succ m ihm =>
                    intro hm
                    have := ihm (by omega)
                    have h5 : ow L n d (5 - m) ≤ 3656158440062976 := by
                      unfold ow
                      split
                      · omega
                      · exact (wy_small L n _ (by omega)).2
                    simp only [rem]
                    push_cast
                    omega
                have := hr (6 - (x + 1)) (by omega)
                have h6 : ((6 - (x + 1) : Nat) : Int) ≤ 6 := by omega
                omega
              exact w64 (by omega) (by omega)
            obtain ⟨w, hw, r⟩ := ihx (q - wy L n e) (by omega) (by omega)
            refine ⟨w, Ev.succ ?_, r⟩
            simp only [spec_MatchedAt.l1, if_pos (show (x : Int) < 6 by omega), if_pos (i0 x), next_eq d (by omega), Option.bind_some, if_neg hneg, f1, if_pos (i0 n), if_pos (show (n : Int) < ((tab L (L + 1)).length : Int) by rw [tab_len]; omega), he, if_pos (i0 e), rdL_tab L (L + 1) n (by omega), if_pos g1, er, if_neg hq, f2, up1 x (by omega)]
            simp only [if_neg (show ¬ (e : Int) < 0 by omega)]
            exact hw
    rw [rem_all L n d (by omega)] at h1
    obtain ⟨w, hw, r⟩ := inner 0 (by omega) q h0 h1
    refine ⟨w, Ev.succ ?_, r⟩
    simp only [spec_MatchedAt.l0, if_pos (show ((n + 1 : Nat) : Int) > 0 by omega)]
    exact hw
/-- Whatever the number: a matched word, or the empty one. -/
theorem matchedAt_ok (L : Nat) (hL : L ≤ 20) (q : Int) : ∃ r : ByteArray × Int, Ev (fun k => spec_MatchedAt.f k L q) r ∧ okw r.1 = true ∧ mtc r.1 = true ∧ r.1.size ≤ 20 := by
  have e0 : rd (rowW L L) 0 = wy L L 0 := rd_range _ _ 0 (by omega)
  have hb := wy_small L L 0 hL
  have f1 : wrap64 (wy L L 0 - 1) = wy L L 0 - 1 := w64 (by omega) (by omega)
  by_cases h : 0 ≤ q ∧ q ≤ wy L L 0 - 1
  · obtain ⟨w, hw, r⟩ := matchedAt_loop L hL L [] 0 q ⟨fun x hx => by simp at hx, rfl, rfl⟩ (by omega) (by simp) h.1 (by omega)
    refine ⟨(w, 0), ?_, r⟩
    unfold spec_MatchedAt.f
    simp only [in_eq, Option.bind_some, decide_eq_true (show (0 : Int) ≤ (L : Int) ∧ (L : Int) ≤ 20 by omega), if_true]
    refine Ev.bind (ways_ev L hL) ?_
    simp only [if_pos (i0 L), if_pos (show (L : Int) < ((tab L (L + 1)).length : Int) by rw [tab_len]; omega), rdL_tab L (L + 1) L (by omega), if_pos (show (0 : Int) < ((rowW L L).length : Int) by rw [rowW_len]; omega), e0, f1, decide_eq_true h, if_true]
    exact hw
  · refine ⟨(⟨#[]⟩, 2), ?_, by decide, by decide, by decide⟩
    unfold spec_MatchedAt.f
    simp only [in_eq, Option.bind_some, decide_eq_true (show (0 : Int) ≤ (L : Int) ∧ (L : Int) ≤ 20 by omega), if_true]
    refine Ev.bind (ways_ev L hL) ?_
    simp only [if_pos (i0 L), if_pos (show (L : Int) < ((tab L (L + 1)).length : Int) by rw [tab_len]; omega), rdL_tab L (L + 1) L (by omega), if_pos (show (0 : Int) < ((rowW L L).length : Int) by rw [rowW_len]; omega), e0, f1, decide_eq_false h, Bool.false_eq_true, if_false]
    exact Ev.now _
theorem pick_any {s : List Int} (hs : Bytes s) (at_ sd n : Int) (h0 : 0 ≤ at_) (h1 : at_ ≤ 1000000) : ∃ v at2 sd', spec_l00Src_pick.f s at_ sd n = some (v, at2, sd') := by
  unfold spec_l00Src_pick.f
  by_cases h : n ≤ 1
  · rw [if_pos h]; exact ⟨_, _, _, rfl⟩
  · obtain ⟨v, sd', e, v0, v1⟩ := next_ok hs at_ sd h0 (by omega)
    rw [if_neg h, e]
    simp only [Option.bind_some]
    split
    · obtain ⟨v2, sd2, e2, _, _⟩ := next_ok hs (at_ + 1) sd' (by omega) (by omega)
      rw [e2]
      simp only [Option.bind_some]
      rw [if_neg (by omega)]
      exact ⟨_, _, _, rfl⟩
    · rw [if_neg (by omega)]
      exact ⟨_, _, _, rfl⟩
/-- A drawn matched word is one. -/
theorem a2matched (l : List Int) (hs : Bytes l) : ∃ w, Ev (fun k => spec_A2Matched.f k l 12) w ∧ okw w = true ∧ mtc w = true ∧ w.size ≤ 20 := by
  obtain ⟨v, at2, sd2, e, v0, v1, a1, a2⟩ := pick_ok hs 0 0 13 (by omega) (by omega) (by omega) (by omega)
  obtain ⟨n, rfl⟩ := Int.eq_ofNat_of_zero_le v0
  have er : rd (rowW 12 n) 0 = wy 12 n 0 := rd_range _ _ 0 (by omega)
  obtain ⟨q, at3, sd3, e2⟩ := pick_any hs at2 sd2 (wy 12 n 0) (by omega) (by omega)
  obtain ⟨r, hr, r2⟩ := matchedAt_ok n (by omega) q
  have f1 : wrap64 ((12 : Int) + 1) = 13 := by rw [w64 (by omega) (by omega)]; rfl
  refine ⟨r.1, ?_, r2⟩
  unfold spec_A2Matched.f spec_l00From.f
  simp only [Option.bind_some]
  refine Ev.bind (a := (r.1, at3, sd3)) ?_ (Ev.now _)
  unfold spec_l01MatchedDrawn.f spec_l00Min.f
  simp only [show ¬ ((12 : Int) < 12) by decide, if_false, Option.bind_some]
  refine Ev.bind (ways_ev 12 (by decide)) ?_
  simp only [f1, e, Option.bind_some, if_pos (i0 n), if_pos (show (n : Int) < ((tab 12 (12 + 1)).length : Int) by rw [tab_len]; omega), rdL_tab 12 (12 + 1) n (by omega), if_pos (show (0 : Int) < ((rowW 12 n).length : Int) by rw [rowW_len]; omega), er, e2]
  exact Ev.bind hr (Ev.now _)
end Go.Proofs.Ytcaijfndmkdboaa.Br
namespace Go.Proofs.Ytcaijfndmkdboaa.Br
open Go.RowKit Go.Proofs.Ytcaijfndmkdboaa.T Go.Proofs.YtcaijfndmkdboaaW.PrintWords Go.Proofs.YtcaijfndmkdboaaW.PrintLast Go.Proofs.YtcaijfndmkdboaaW.PrintMore Go.Proofs.Ytcaijfndmkdboaa.Th
set_option linter.unusedVariables false
set_option linter.unusedSimpArgs false
/-- The factors of a matched word, from a place where nothing is open. -/
inductive Fac (a : ByteArray) : Nat → List ByteArray → Prop
  | nil : Fac a a.size []
  | cons {i e : Nat} {L : List ByteArray} : i < e → e ≤ a.size → (st (bt a) i).c = [] → (st (bt a) e).c = [] → (if isC (bt a i) = true then g (st (bt a) a.size).p i + 1 = e else e = i + 1) → Fac a e L → Fac a i (a.extract i e :: L)
theorem fac_loop (a : ByteArray) (hn : a.size ≤ 1048576) (hm : mtc a = true) (p r c d q : List Int) (hp : p = (st (bt a) a.size).p) : ∀ n i : Nat, i ≤ a.size → a.size ≤ i + n → (st (bt a) i).c = [] → ∀ acc : List ByteArray, acc.length ≤ i →
    ∃ L : List ByteArray, Fac a i L ∧ Ev (fun k => impl_factors.l0 k a acc i p r c d q) (acc ++ L) := by
  have lp : p.length = a.size := by rw [hp]; exact (basic (bt a) a.size).lp
  obtain ⟨hr, hc⟩ := mtc_nil hm
  intro n
  induction n with
  | zero =>
    intro i hi hi2 _ acc ha
    obtain rfl : i = a.size := by omega
    refine ⟨[], Fac.nil, Ev.succ ?_⟩
    simp only [impl_factors.l0, if_neg (show ¬ (a.size : Int) < (a.size : Int) by omega), List.append_nil]
    exact Ev.now _
  | succ n ih =>
    intro i hi hi2 h0 acc ha
    by_cases hlt : i < a.size
    · have hh := mtc_p hm hlt
      have key : ∃ e : Nat, i < e ∧ e ≤ a.size ∧ (if isC (bt a i) = true then g (st (bt a) a.size).p i + 1 = e else e = i + 1) ∧ mx i (g p i) + 1 = e ∧ (st (bt a) e).c = [] := by
        by_cases hC : isC (bt a i) = true
        · have := hh.1 hC
          have he : g (st (bt a) a.size).p i + 1 = ((g (st (bt a) a.size).p i + 1).toNat : Int) := by omega
          refine ⟨(g (st (bt a) a.size).p i + 1).toNat, by omega, by omega, by rw [if_pos hC]; exact he, ?_, (call_end hr hc hlt h0 hC he (by omega)).1⟩
          rw [hp]
          unfold mx
          rw [if_pos this.1]; omega
        · have := hh.2 (by simpa using hC)
          have hR : ¬ isR (bt a i) = true := by
            intro hR
            have e1 := r_nil hr (show i + 1 ≤ a.size by omega)
            rw [st_succ, step_r, if_pos ⟨hR, h0⟩] at e1
            simp at e1
          refine ⟨i + 1, by omega, by omega, by rw [if_neg hC], ?_, ?_⟩
          · rw [hp]
            unfold mx
            rw [if_neg (by omega)]; push_cast; rfl
          · rw [st_succ, step_c, if_neg hR, if_neg hC]; exact h0
      obtain ⟨e, e1, e2, e3, e4, e5⟩ := key
      obtain ⟨L, s1, s2⟩ := ih e e2 (by omega) e5 (acc ++ [a.extract i e]) (by simp; omega)
      have b1 : (i : Int) < (a.size : Int) := by omega
      have b2 : (0 : Int) ≤ (i : Int) := by omega
      have b3 : (i : Int) < (p.length : Int) := by omega
      have b4 : (i : Int) ≤ (e : Int) := by omega
      have b5 : (e : Int) ≤ (a.size : Int) := by omega
      have b6 : acc.length < 8796093022208 := by omega
      refine ⟨a.extract i e :: L, Fac.cons e1 e2 h0 e5 e3 s1, Ev.succ ?_⟩
      have f1 : wrap64 (mx i (g p i) + 1) = e := by rw [w64 (by omega) (by omega)]; exact e4
      simp only [impl_factors.l0, if_pos b1, if_pos b2, if_pos b3, g_rd, f1, if_pos b4, if_pos b5, if_pos b6, Int.toNat_natCast]
      rw [List.append_assoc] at s2
      exact s2
    · exact ih i hi (by omega) h0 acc ha
theorem fac_ev (a : ByteArray) (hn : a.size ≤ 1048576) (h : okw a = true) (hm : mtc a = true) : ∃ L, Fac a 0 L ∧ Ev (fun k => impl_FactorsOf.f k a) (L, 0) := by
  obtain ⟨L, s1, s2⟩ := fac_loop a hn hm _ (st (bt a) a.size).r (st (bt a) a.size).c (st (bt a) a.size).d (st (bt a) a.size).q rfl a.size 0 (by omega) (by omega) rfl [] (by simp)
  refine ⟨L, s1, ?_⟩
  unfold impl_FactorsOf.f
  refine Ev.bind (valid_ev a hn) ?_
  simp only [h, if_true]
  refine Ev.bind (iMatched_ev a hn) ?_
  simp only [hm, if_true]
  refine Ev.bind (a := L) ?_ (Ev.now _)
  unfold impl_factors.f
  exact Ev.bind (match_ev a hn) s2
theorem ext_size (a : ByteArray) {i e : Nat} (h : e ≤ a.size) : (a.extract i e).size = e - i := by rw [ByteArray.size_extract]; omega
theorem okw_extract {a : ByteArray} (h : okw a = true) {i e : Nat} (he : e ≤ a.size) : okw (a.extract i e) = true := by
  rw [okw_iff, ext_size a he]
  refine ⟨fun j hj => ?_, by have := okw_size h; omega⟩
  rw [bt_extract a he hj]
  exact okw_sym h (by omega)
/-- What is read between two places where nothing is open is matched. -/
theorem part_state {a : ByteArray} (hm : mtc a = true) {i e : Nat} (hie : i ≤ e) (he : e ≤ a.size) (h0 : (st (bt a) i).c = []) (h1 : (st (bt a) e).c = []) : (st (bt (a.extract i e)) (e - i)).c = [] ∧ (st (bt (a.extract i e)) (e - i)).r = [] := by
  obtain ⟨hr, hc⟩ := mtc_nil hm
  have e0 : st (bt (a.extract i e)) (e - i) = st (fun j => bt a (i + j)) (e - i) := st_congr _ fun j hj => by rw [bt_extract a he hj]; push_cast; rfl
  obtain ⟨s1, s2⟩ := shift (bt a) i h0 (e - i)
  rw [show i + (e - i) = e by omega] at s1 s2
  rw [e0]
  rw [h1] at s1
  have hre := r_nil hr he
  rw [hre] at s2
  refine ⟨List.map_eq_nil_iff.1 s1.symm, ?_⟩
  have := (List.append_eq_nil_iff.1 s2.symm).2
  exact List.map_eq_nil_iff.1 this
theorem part_mtc {a : ByteArray} (hm : mtc a = true) {i e : Nat} (hie : i ≤ e) (he : e ≤ a.size) (h0 : (st (bt a) i).c = []) (h1 : (st (bt a) e).c = []) : mtc (a.extract i e) = true := by
  obtain ⟨s1, s2⟩ := part_state hm hie he h0 h1
  unfold mtc
  rw [ext_size a he, s1, s2]
  rfl
/-- In such a part that begins with a call, the call matches the last symbol. -/
theorem part_first {a : ByteArray} (hm : mtc a = true) {i e : Nat} (hie : i < e) (he : e ≤ a.size) (h0 : (st (bt a) i).c = []) (h1 : (st (bt a) e).c = []) (hC : isC (bt a i) = true) (hp : g (st (bt a) a.size).p i + 1 = e) :
    g (st (bt (a.extract i e)) (a.extract i e).size).p 0 = (e - i : Nat) - 1 := by
  obtain ⟨hr, hc⟩ := mtc_nil hm
  rw [ext_size a he]
  have hin := (call_end hr hc (by omega) h0 hC hp he).2
  have e1 : st (bt (a.extract i e)) (e - 1 - i) = st (fun j => bt a (i + j)) (e - 1 - i) := st_congr _ fun j hj => by rw [bt_extract a he (by omega)]; push_cast; rfl
  obtain ⟨s1, _⟩ := shift (bt a) i h0 (e - 1 - i)
  have hgt := (mtc_p hm (show i < a.size by omega)).1 hC
  rw [show i + (e - 1 - i) = e - 1 by omega, ← e1] at s1
  rw [s1] at hin
  obtain ⟨x, hx, hxi⟩ := List.mem_map.1 hin
  obtain rfl : x = ((0 : Nat) : Int) := by simp at hxi ⊢; omega
  obtain ⟨q1, q2⟩ := part_state hm (by omega) he h0 h1
  have I := inv (bt (a.extract i e)) (e - i)
  have hon := (onstack (bt (a.extract i e)) (e - 1 - i) (e - i) (by omega) 0 (by omega)).1 hx
  have n2 : g (st (bt (a.extract i e)) (e - i)).p 0 ≠ -2 := by
    intro h2
    have := (I.m2 0 (by omega)).1 h2
    rw [q1, q2] at this
    simp at this
  have hle := hon.2.resolve_left n2
  have hlt := (I.pos 0 (by omega) (by omega)).1
  omega
theorem ext_join (a : ByteArray) {i e : Nat} (hie : i ≤ e) (he : e ≤ a.size) : a.extract 0 i ++ a.extract i e = a.extract 0 e := by
  refine ba_ext ?_ fun j hj => ?_
  · rw [ByteArray.size_append, ext_size a (by omega), ext_size a he, ext_size a he]; omega
  · rw [ByteArray.size_append, ext_size a (by omega), ext_size a he] at hj
    rw [bt_append, ext_size a (by omega)]
    split
    · rw [bt_extract a (by omega) (by omega), bt_extract a he (by omega)]
    · rw [bt_extract a he (by omega), bt_extract a he (by omega)]
      congr 1; omega
theorem ext_all (a : ByteArray) : a.extract 0 a.size = a := by
  refine ba_ext (by rw [ext_size a (Nat.le_refl _)]; omega) fun j hj => ?_
  rw [ext_size a (Nat.le_refl _)] at hj
  rw [bt_extract a (Nat.le_refl _) hj, Nat.zero_add]

/-- A place with a parent lies behind it, within what the parent opens. -/
theorem par_in (b : Int → Int) (n j i : Nat) (hj : j < n) (h : g (st b n).q j = i) : i < j ∧ isC (b i) = true ∧ (g (st b n).p i = -2 ∨ (j : Int) < g (st b n).p i) := by
  rw [parents_eq b hj] at h
  by_cases h0 : sel (fun k => isC (b k) && (g (st b n).p k == -2 || decide ((j : Int) < g (st b n).p k))) j = []
  · rw [h0] at h; simp [top] at h
  · have := top_mem h0
    rw [h, mem_sel] at this
    obtain ⟨k, hk, e, hf⟩ := this
    have : i = k := by omega
    subst this
    simp at hf
    refine ⟨hk, hf.1, ?_⟩
    rcases hf.2 with h1 | h1
    · exact Or.inl h1
    · exact Or.inr h1
theorem par_le (b : Int → Int) (n j : Nat) (hj : j < n) : -1 ≤ g (st b n).q j ∧ g (st b n).q j < j := by
  rw [parents_eq b hj]
  by_cases h0 : sel (fun k => isC (b k) && (g (st b n).p k == -2 || decide ((j : Int) < g (st b n).p k))) j = []
  · rw [h0]; simp [top]; omega
  · have := top_mem h0
    rw [mem_sel] at this
    obtain ⟨k, hk, e, _⟩ := this
    omega
theorem sel_add (f h u : Nat → Bool) : ∀ n, (∀ j, j < n → u j = (f j || h j)) → (∀ j, j < n → ¬ (f j = true ∧ h j = true)) → (sel u n).length = (sel f n).length + (sel h n).length
  | 0, _, _ => rfl
  | n + 1, h1, h2 => by
    have ih := sel_add f h u n (fun j hj => h1 j (by omega)) (fun j hj => h2 j (by omega))
    have e1 := h1 n (by omega)
    have e2 := h2 n (by omega)
    simp only [sel]
    cases hf : f n <;> cases hh : h n
    · rw [hf, hh] at e1; simp at e1; simp [e1, ih]
    · rw [hf, hh] at e1; simp at e1; simp [e1, ih]; omega
    · rw [hf, hh] at e1; simp at e1; simp [e1, ih]; omega
    · exact absurd ⟨hf, hh⟩ e2
theorem sel_every (f : Nat → Bool) : ∀ n, (∀ j, j < n → f j = true) → (sel f n).length = n
  | 0, _ => rfl
  | n + 1, h => by
    simp only [sel, h n (by omega), if_true, List.length_append, sel_every f n (fun j hj => h j (by omega))]
    rfl
theorem sel_none (f : Nat → Bool) : ∀ n, (∀ j, j < n → f j = false) → sel f n = []
  | 0, _ => rfl
  | n + 1, h => by
    simp only [sel, h n (by omega), Bool.false_eq_true, if_false, sel_none f n (fun j hj => h j (by omega))]
end Go.Proofs.Ytcaijfndmkdboaa.Br
