/- What the law FnExactCheckPath leans on: plain facts, and what the printed functions that it reaches come to; for all arguments that the facts name. -/
import Derived.Test.YtcaijfndmkdboaaPk0
import Derived.Test.YtcaijfndmkdboaaPk49
import Derived.Test.YtcaijfndmkdboaaPk57
import Derived.Test.YtcaijfndmkdboaaPk59
import Derived.Test.YtcaijfndmkdboaaPk60
import Derived.Test.YtcaijfndmkdboaaPk61
import Derived.Test.YtcaijfndmkdboaaPk69
import Derived.Test.YtcaijfndmkdboaaPk82
import Derived.Test.YtcaijfndmkdboaaPk84
import Derived.Test.YtcaijfndmkdboaaPk118
import Derived.Test.YtcaijfndmkdboaaPk123
import Derived.Test.YtcaijfndmkdboaaPk135
import Derived.Test.YtcaijfndmkdboaaPk136
import Derived.Test.YtcaijfndmkdboaaPk139
import Derived.Test.YtcaijfndmkdboaaPk144
import Derived.Test.YtcaijfndmkdboaaPk149
import Derived.Test.YtcaijfndmkdboaaPk166
import Derived.Test.YtcaijfndmkdboaaPk171
import Derived.Test.YtcaijfndmkdboaaPk173
import Derived.Test.YtcaijfndmkdboaaPk7000000
import Derived.Test.YtcaijfndmkdboaaPk7000004
namespace Go.Proofs.Ytcaijfndmkdboaa.Th

def isC (b : Int) : Bool := b == 40 || b == 91
def isR (b : Int) : Bool := b == 41 || b == 93

structure St where
  p : List Int
  r : List Int
  c : List Int
  d : List Int
  q : List Int

def top (c : List Int) : Int := c.getLast?.getD (-1)

def step (s : St) (i b : Int) : St :=
  if isR b = true then
    if s.c = [] then ⟨s.p ++ [-2], s.r ++ [i], [], s.d ++ [0], s.q ++ [-1]⟩
    else ⟨s.p.set (top s.c).toNat i ++ [top s.c], s.r, s.c.dropLast, s.d ++ [(s.c.dropLast.length : Int)], s.q ++ [top s.c.dropLast]⟩
  else if isC b = true then ⟨s.p ++ [-2], s.r, s.c ++ [i], s.d ++ [(s.c.length : Int) + 1], s.q ++ [top s.c]⟩
  else ⟨s.p ++ [-1], s.r, s.c, s.d ++ [(s.c.length : Int)], s.q ++ [top s.c]⟩

def st (b : Int → Int) : Nat → St
  | 0 => ⟨[], [], [], [0], []⟩
  | n + 1 => step (st b n) n (b n)

theorem isR_notC {b : Int} (h : isR b = true) : isC b = false := by
  unfold isR at h; unfold isC
  simp at h ⊢
  omega

structure Basic (s : St) (n : Nat) : Prop where
  lp : s.p.length = n
  lq : s.q.length = n
  ld : s.d.length = n + 1
  lr : s.r.length ≤ n
  lc : s.c.length ≤ n
  hc : ∀ x ∈ s.c, 0 ≤ x ∧ x < n
  hr : ∀ x ∈ s.r, 0 ≤ x ∧ x < n

theorem top_mem {c : List Int} (h : c ≠ []) : top c ∈ c := by
  unfold top
  rw [List.getLast?_eq_some_getLast h]
  exact List.getLast_mem h

theorem basic (b : Int → Int) : ∀ n, Basic (st b n) n
  | 0 => by constructor <;> simp [st]
  | n + 1 => by
    have ih := basic b n
    obtain ⟨h1, h2, h3, h4, h5, h6, h7⟩ := ih
    unfold st step
    split
    · split
      · constructor <;> simp_all
        · intro x hx; rcases hx with hx | hx
          · have := h7 x hx; omega
          · omega
      · rename_i hne
        have hd : ∀ x ∈ (st b n).c.dropLast, x ∈ (st b n).c := fun x hx => List.dropLast_subset _ hx
        constructor
        · simp; exact h1
        · simp; exact h2
        · simp; exact h3
        · simp; omega
        · simp; omega
        · intro x hx; have := h6 x (hd x hx); constructor <;> omega
        · intro x hx; have := h7 x hx; constructor <;> omega
    · split
      · constructor
        · simp; exact h1
        · simp; exact h2
        · simp; exact h3
        · simp; omega
        · simp; omega
        · intro x hx
          rcases List.mem_append.1 hx with hx | hx
          · have := h6 x hx; constructor <;> omega
          · simp at hx; omega
        · intro x hx; have := h7 x hx; constructor <;> omega
      · constructor
        · simp; exact h1
        · simp; exact h2
        · simp; exact h3
        · simp; omega
        · simp; omega
        · intro x hx; have := h6 x hx; constructor <;> omega
        · intro x hx; have := h7 x hx; constructor <;> omega


def g (l : List Int) (j : Nat) : Int := l.getD j 0

theorem g_append_left {l m : List Int} {j : Nat} (h : j < l.length) : g (l ++ m) j = g l j := by
  unfold g; simp [List.getD_eq_getElem?_getD, List.getElem?_append_left h]
theorem g_append_end {l : List Int} {x : Int} {j : Nat} (h : j = l.length) : g (l ++ [x]) j = x := by
  subst h; unfold g; simp [List.getD_eq_getElem?_getD]
theorem g_set {l : List Int} {t j : Nat} {x : Int} : g (l.set t x) j = if t = j ∧ j < l.length then x else g l j := by
  unfold g
  simp only [List.getD_eq_getElem?_getD, List.getElem?_set]
  by_cases h : t = j
  · subst h
    by_cases h2 : t < l.length
    · simp [h2]
    · simp [h2]
  · simp [h]

structure Inv (b : Int → Int) (s : St) (n : Nat) : Prop where
  ba : Basic s n
  inc : (s.r ++ s.c).Pairwise (· < ·)
  m2 : ∀ j : Nat, j < n → (g s.p j = -2 ↔ (j : Int) ∈ s.r ∨ (j : Int) ∈ s.c)
  br : ∀ j : Nat, (j : Int) ∈ s.r → isR (b j) = true
  bc : ∀ j : Nat, (j : Int) ∈ s.c → isC (b j) = true
  m1 : ∀ j : Nat, j < n → (g s.p j = -1 ↔ isC (b j) = false ∧ isR (b j) = false)
  pos : ∀ j : Nat, j < n → 0 ≤ g s.p j → g s.p j < n ∧ g s.p (g s.p j).toNat = j ∧ ((isC (b j) = true ∧ (j : Int) < g s.p j) ∨ (isR (b j) = true ∧ g s.p j < j))
  lo : ∀ j : Nat, j < n → -2 ≤ g s.p j

theorem pw_mem {l : List Int} {x : Int} (h : (l ++ [x]).Pairwise (· < ·)) : ∀ y ∈ l, y < x := by
  intro y hy
  exact (List.pairwise_append.1 h).2.2 y hy x (by simp)

theorem dropLast_top {c : List Int} (h : c ≠ []) : c.dropLast ++ [top c] = c := by
  unfold top
  rw [List.getLast?_eq_some_getLast h]
  exact List.dropLast_concat_getLast h

theorem inv (b : Int → Int) : ∀ n, Inv b (st b n) n
  | 0 => by
    constructor <;> first | exact basic b 0 | simp [st]
  | n + 1 => by
    have ih := inv b n
    have hba := basic b (n + 1)
    have hst : st b (n + 1) = step (st b n) n (b n) := rfl
    obtain ⟨B, inc, m2, br, bc, m1, pos, lo⟩ := ih
    obtain ⟨lp, lq, ld, lr, lc, hc, hr⟩ := B
    generalize hs : st b n = s at *
    rw [hst] at hba ⊢
    by_cases hR : isR (b n) = true
    · have hC := isR_notC hR
      by_cases he : s.c = []
      · have e : step s n (b n) = ⟨s.p ++ [-2], s.r ++ [(n : Int)], [], s.d ++ [0], s.q ++ [-1]⟩ := by simp [step, hR, he]
        rw [e] at hba ⊢
        rw [he, List.append_nil] at inc
        have gl : ∀ j : Nat, j < n → g (s.p ++ [-2]) j = g s.p j := fun j hj => g_append_left (by omega)
        have gn : g (s.p ++ [-2]) n = -2 := g_append_end lp.symm
        refine ⟨hba, ?_, ?_, ?_, ?_, ?_, ?_, ?_⟩
        · simp only [List.append_nil]
          refine List.pairwise_append.2 ⟨inc, by simp, ?_⟩
          intro a ha x hx; simp at hx; subst hx; exact (hr a ha).2
        · intro j hj
          by_cases hjn : j = n
          · subst hjn; simp [gn]
          · have hj' : j < n := by omega
            rw [gl j hj', m2 j hj', he]
            simp; omega
        · intro j hj
          rcases List.mem_append.1 hj with h | h
          · exact br j h
          · simp at h; rw [show j = n by omega]; exact hR
        · intro j hj; simp at hj
        · intro j hj
          by_cases hjn : j = n
          · subst hjn; simp [gn, hR]
          · have hj' : j < n := by omega
            rw [gl j hj']; exact m1 j hj'
        · intro j hj h0
          by_cases hjn : j = n
          · subst hjn; rw [gn] at h0; omega
          · have hj' : j < n := by omega
            rw [gl j hj'] at h0 ⊢
            obtain ⟨p1, p2, p3⟩ := pos j hj' h0
            refine ⟨by omega, ?_, p3⟩
            rw [gl _ (by omega)]; exact p2
        · intro j hj
          by_cases hjn : j = n
          · subst hjn; rw [gn]; omega
          · have hj' : j < n := by omega
            rw [gl j hj']; exact lo j hj'
      · have e : step s n (b n) = ⟨s.p.set (top s.c).toNat n ++ [top s.c], s.r, s.c.dropLast, s.d ++ [(s.c.dropLast.length : Int)], s.q ++ [top s.c.dropLast]⟩ := by simp [step, hR, he]
        rw [e] at hba ⊢
        have ht := top_mem he
        obtain ⟨t0, t1⟩ := hc _ ht
        obtain ⟨t, htt⟩ := Int.eq_ofNat_of_zero_le t0
        have hdt := dropLast_top he
        have htn : t < n := by omega
        have ht2 : g s.p t = -2 := (m2 t htn).2 (Or.inr (htt ▸ ht))
        have htC : isC (b t) = true := bc t (htt ▸ ht)
        rw [htt] at hdt ⊢
        simp only [Int.toNat_natCast]
        have inc' : (s.r ++ s.c.dropLast ++ [(t : Int)]).Pairwise (· < ·) := by rw [List.append_assoc, hdt]; exact inc
        have hlt := pw_mem inc'
        have gn : g (s.p.set t n ++ [(t : Int)]) n = t := g_append_end (by simp [lp])
        have gl : ∀ j : Nat, j < n → g (s.p.set t n ++ [(t : Int)]) j = if t = j then (n : Int) else g s.p j := by
          intro j hj
          rw [g_append_left (by simp; omega), g_set]
          by_cases h : t = j
          · simp [h]; omega
          · simp [h]
        have hcm : ∀ j : Nat, (j : Int) ∈ s.c ↔ (j : Int) ∈ s.c.dropLast ∨ j = t := by
          intro j
          conv => lhs; rw [← hdt]
          rw [List.mem_append, List.mem_singleton, Int.ofNat_inj]
        refine ⟨by rw [htt] at hba; simpa using hba, ?_, ?_, ?_, ?_, ?_, ?_, ?_⟩
        · exact (List.pairwise_append.1 inc').1
        · intro j hj
          by_cases hjn : j = n
          · subst hjn
            rw [gn]
            constructor
            · intro h; omega
            · intro h
              rcases h with h | h
              · have := hr _ h; omega
              · have := hc _ ((hcm j).2 (Or.inl h)); omega
          · have hj' : j < n := by omega
            rw [gl j hj']
            by_cases hjt : t = j
            · subst hjt
              simp only [if_true]
              constructor
              · intro h; omega
              · intro h
                rcases h with h | h
                · have := hlt t (by simp [h]); omega
                · have := hlt t (by simp [h]); omega
            · rw [if_neg hjt, m2 j hj', hcm j]
              constructor
              · rintro (h | h | h)
                · exact Or.inl h
                · exact Or.inr h
                · omega
              · rintro (h | h)
                · exact Or.inl h
                · exact Or.inr (Or.inl h)
        · exact br
        · intro j hj; exact bc j ((hcm j).2 (Or.inl hj))
        · intro j hj
          by_cases hjn : j = n
          · subst hjn; rw [gn]; simp [hR]
          · have hj' : j < n := by omega
            rw [gl j hj']
            by_cases hjt : t = j
            · subst hjt; simp [htC]
            · rw [if_neg hjt]; exact m1 j hj'
        · intro j hj h0
          by_cases hjn : j = n
          · subst hjn
            rw [gn]
            refine ⟨by omega, ?_, Or.inr ⟨hR, by omega⟩⟩
            rw [Int.toNat_natCast, gl t htn, if_pos rfl]
          · have hj' : j < n := by omega
            rw [gl j hj'] at h0 ⊢
            by_cases hjt : t = j
            · subst hjt
              simp only [if_true]
              refine ⟨by omega, ?_, Or.inl ⟨htC, by omega⟩⟩
              rw [Int.toNat_natCast, gn]
            · rw [if_neg hjt] at h0 ⊢
              obtain ⟨p1, p2, p3⟩ := pos j hj' h0
              refine ⟨by omega, ?_, p3⟩
              rw [gl _ (by omega), if_neg]
              · exact p2
              · intro h; rw [← h, ht2] at p2; omega
        · intro j hj
          by_cases hjn : j = n
          · subst hjn; rw [gn]; omega
          · have hj' : j < n := by omega
            rw [gl j hj']
            split
            · omega
            · exact lo j hj'
    · have hR' : isR (b n) = false := by simpa using hR
      by_cases hC : isC (b n) = true
      · have e : step s n (b n) = ⟨s.p ++ [-2], s.r, s.c ++ [(n : Int)], s.d ++ [(s.c.length : Int) + 1], s.q ++ [top s.c]⟩ := by simp [step, hR, hC]
        rw [e] at hba ⊢
        have gl : ∀ j : Nat, j < n → g (s.p ++ [-2]) j = g s.p j := fun j hj => g_append_left (by omega)
        have gn : g (s.p ++ [-2]) n = -2 := g_append_end lp.symm
        refine ⟨hba, ?_, ?_, ?_, ?_, ?_, ?_, ?_⟩
        · rw [← List.append_assoc]
          refine List.pairwise_append.2 ⟨inc, by simp, ?_⟩
          intro a ha x hx; simp at hx; subst hx
          rcases List.mem_append.1 ha with h | h
          · exact (hr a h).2
          · exact (hc a h).2
        · intro j hj
          by_cases hjn : j = n
          · subst hjn; simp [gn]
          · have hj' : j < n := by omega
            rw [gl j hj', m2 j hj', List.mem_append, List.mem_singleton, Int.ofNat_inj]
            constructor
            · rintro (h | h)
              · exact Or.inl h
              · exact Or.inr (Or.inl h)
            · rintro (h | h | h)
              · exact Or.inl h
              · exact Or.inr h
              · omega
        · exact br
        · intro j hj
          rcases List.mem_append.1 hj with h | h
          · exact bc j h
          · simp at h; rw [show j = n by omega]; exact hC
        · intro j hj
          by_cases hjn : j = n
          · subst hjn; simp [gn, hC]
          · have hj' : j < n := by omega
            rw [gl j hj']; exact m1 j hj'
        · intro j hj h0
          by_cases hjn : j = n
          · subst hjn; rw [gn] at h0; omega
          · have hj' : j < n := by omega
            rw [gl j hj'] at h0 ⊢
            obtain ⟨p1, p2, p3⟩ := pos j hj' h0
            refine ⟨by omega, ?_, p3⟩
            rw [gl _ (by omega)]; exact p2
        · intro j hj
          by_cases hjn : j = n
          · subst hjn; rw [gn]; omega
          · have hj' : j < n := by omega
            rw [gl j hj']; exact lo j hj'
      · have hC' : isC (b n) = false := by simpa using hC
        have e : step s n (b n) = ⟨s.p ++ [-1], s.r, s.c, s.d ++ [(s.c.length : Int)], s.q ++ [top s.c]⟩ := by simp [step, hR, hC]
        rw [e] at hba ⊢
        have gl : ∀ j : Nat, j < n → g (s.p ++ [-1]) j = g s.p j := fun j hj => g_append_left (by omega)
        have gn : g (s.p ++ [-1]) n = -1 := g_append_end lp.symm
        refine ⟨hba, inc, ?_, br, bc, ?_, ?_, ?_⟩
        · intro j hj
          by_cases hjn : j = n
          · subst hjn; rw [gn]
            constructor
            · intro h; omega
            · rintro (h | h)
              · have := hr _ h; omega
              · have := hc _ h; omega
          · have hj' : j < n := by omega
            rw [gl j hj', m2 j hj']
        · intro j hj
          by_cases hjn : j = n
          · subst hjn; simp [gn, hC', hR']
          · have hj' : j < n := by omega
            rw [gl j hj']; exact m1 j hj'
        · intro j hj h0
          by_cases hjn : j = n
          · subst hjn; rw [gn] at h0; omega
          · have hj' : j < n := by omega
            rw [gl j hj'] at h0 ⊢
            obtain ⟨p1, p2, p3⟩ := pos j hj' h0
            refine ⟨by omega, ?_, p3⟩
            rw [gl _ (by omega)]; exact p2
        · intro j hj
          by_cases hjn : j = n
          · subst hjn; rw [gn]; omega
          · have hj' : j < n := by omega
            rw [gl j hj']; exact lo j hj'

/-- What is on the stack after m symbols: by the partners at the end. -/
theorem onstack (b : Int → Int) (m : Nat) : ∀ n, m ≤ n → ∀ k : Nat, k < m → ((k : Int) ∈ (st b m).c ↔ isC (b k) = true ∧ (g (st b n).p k = -2 ∨ (m : Int) ≤ g (st b n).p k)) := by
  intro n hn
  obtain ⟨d, rfl⟩ := Nat.exists_eq_add_of_le hn
  clear hn
  induction d with
  | zero =>
    intro k hk
    have I := inv b m
    constructor
    · intro h; exact ⟨I.bc k h, Or.inl ((I.m2 k hk).2 (Or.inr h))⟩
    · rintro ⟨h1, h2 | h2⟩
      · rcases (I.m2 k hk).1 h2 with h | h
        · have := isR_notC (I.br k h); rw [this] at h1; cases h1
        · exact h
      · have := I.pos k hk (by simp at h2; omega)
        simp at h2; omega
  | succ d ih =>
    intro k hk
    rw [ih k hk]
    have I := inv b (m + d)
    have B := I.ba
    have hst : st b (m + (d + 1)) = step (st b (m + d)) ((m + d : Nat) : Int) (b ((m + d : Nat) : Int)) := rfl
    rw [hst]
    generalize hs : st b (m + d) = s at *
    have lp := B.lp
    unfold step
    split
    · split
      · rw [g_append_left (by omega)]
      · rename_i he
        have ht := top_mem he
        obtain ⟨t0, t1⟩ := B.hc _ ht
        obtain ⟨t, htt⟩ := Int.eq_ofNat_of_zero_le t0
        rw [htt]
        simp only [Int.toNat_natCast]
        rw [g_append_left (by simp; omega), g_set]
        by_cases h : t = k
        · subst h
          have h2 : g s.p t = -2 := (I.m2 t (by omega)).2 (Or.inr (htt ▸ ht))
          rw [if_pos ⟨rfl, by omega⟩, h2]
          simp
          intro _
          right
          omega
        · rw [if_neg (by omega)]
    · split
      · rw [g_append_left (by omega)]
      · rw [g_append_left (by omega)]

/-- Two increasing lists with the same members. -/
theorem inc_ext : ∀ {l m : List Int}, l.Pairwise (· < ·) → m.Pairwise (· < ·) → (∀ x, x ∈ l ↔ x ∈ m) → l = m
  | [], [], _, _, _ => rfl
  | [], y :: m, _, _, h => by have := (h y).2 (by simp); simp at this
  | x :: l, [], _, _, h => by have := (h x).1 (by simp); simp at this
  | x :: l, y :: m, hl, hm, h => by
    obtain ⟨a1, a2⟩ := List.pairwise_cons.1 hl
    obtain ⟨b1, b2⟩ := List.pairwise_cons.1 hm
    have e : x = y := by
      rcases List.mem_cons.1 ((h x).1 (by simp)) with r | r
      · exact r
      · rcases List.mem_cons.1 ((h y).2 (by simp)) with r2 | r2
        · exact r2.symm
        · have := b1 x r; have := a1 y r2; omega
    subst e
    congr 1
    refine inc_ext a2 b2 fun z => ?_
    have hz := h z
    constructor
    · intro hz2
      rcases List.mem_cons.1 (hz.1 (List.mem_cons_of_mem _ hz2)) with r | r
      · have := a1 z hz2; omega
      · exact r
    · intro hz2
      rcases List.mem_cons.1 (hz.2 (List.mem_cons_of_mem _ hz2)) with r | r
      · have := b1 z hz2; omega
      · exact r

/-- The places up to i for which a test says yes, in order. -/
def sel (f : Nat → Bool) : Nat → List Int
  | 0 => []
  | i + 1 => if f i then sel f i ++ [(i : Int)] else sel f i

theorem mem_sel {f : Nat → Bool} : ∀ {i : Nat} {x : Int}, x ∈ sel f i ↔ ∃ j : Nat, j < i ∧ x = j ∧ f j = true
  | 0, x => by simp [sel]
  | i + 1, x => by
    unfold sel
    split
    · rename_i h
      rw [List.mem_append, mem_sel (i := i)]
      constructor
      · rintro (⟨j, h1, h2, h3⟩ | hx)
        · exact ⟨j, by omega, h2, h3⟩
        · simp at hx; exact ⟨i, by omega, hx, h⟩
      · rintro ⟨j, h1, h2, h3⟩
        by_cases hj : j = i
        · subst hj; right; simp [h2]
        · left; exact ⟨j, by omega, h2, h3⟩
    · rename_i h
      rw [mem_sel (i := i)]
      constructor
      · rintro ⟨j, h1, h2, h3⟩; exact ⟨j, by omega, h2, h3⟩
      · rintro ⟨j, h1, h2, h3⟩
        by_cases hj : j = i
        · subst hj; exact absurd h3 h
        · exact ⟨j, by omega, h2, h3⟩

theorem sel_inc {f : Nat → Bool} : ∀ i, (sel f i).Pairwise (· < ·)
  | 0 => by simp [sel]
  | i + 1 => by
    unfold sel
    split
    · refine List.pairwise_append.2 ⟨sel_inc i, by simp, ?_⟩
      intro a ha x hx
      obtain ⟨j, h1, h2, _⟩ := mem_sel.1 ha
      simp at hx; omega
    · exact sel_inc i

end Go.Proofs.Ytcaijfndmkdboaa.Th
namespace Go.Proofs.Ytcaijfndmkdboaa.Br
open Go.RowKit Go.Proofs.Ytcaijfndmkdboaa.K Go.Proofs.YtcaijfndmkdboaaW.PrintWords Go.Proofs.YtcaijfndmkdboaaW.PrintLast Go.Proofs.YtcaijfndmkdboaaW.PrintMore Go.Proofs.Ytcaijfndmkdboaa.Th
set_option linter.unusedVariables false
set_option linter.unusedSimpArgs false
theorem Ev.succ {α : Type} {g : Nat → Option α} {r : α} (h : Ev (fun k => g (k + 1)) r) : Ev g r := by
  obtain ⟨K, hK⟩ := h
  refine ⟨K + 1, fun k hk => ?_⟩
  obtain ⟨m, rfl⟩ : ∃ m, k = m + 1 := ⟨k - 1, by omega⟩
  exact hK m (by omega)
theorem Ev.done {α : Type} {r s : α} (h : r = s) : Ev (fun _ : Nat => some r) s := h ▸ Ev.now r
theorem w64 {x : Int} (h0 : -9223372036854775808 ≤ x) (h1 : x ≤ 9223372036854775807) : wrap64 x = x := by unfold wrap64; omega

/-- The number of a symbol, -1 if it is none. -/
def sym (b : Int) : Int := if b = 40 then 0 else if b = 91 then 1 else if b = 41 then 2 else if b = 93 then 3 else if b = 97 then 4 else if b = 98 then 5 else -1

def allFrom (f : Nat → Bool) : Nat → Nat → Bool
  | 0, _ => true
  | d + 1, i => f i && allFrom f d (i + 1)

/-- Is a text a word. -/
def okw (a : ByteArray) : Bool := allFrom (fun j => decide (0 ≤ sym (bt a j))) a.size 0 && decide ((a.size : Int) ≤ 60)

theorem bs0 : bt (⟨#[40, 91, 41, 93, 97, 98]⟩ : ByteArray) 0 = 40 := by decide
theorem bs1 : bt (⟨#[40, 91, 41, 93, 97, 98]⟩ : ByteArray) 1 = 91 := by decide
theorem bs2 : bt (⟨#[40, 91, 41, 93, 97, 98]⟩ : ByteArray) 2 = 41 := by decide
theorem bs3 : bt (⟨#[40, 91, 41, 93, 97, 98]⟩ : ByteArray) 3 = 93 := by decide
theorem bs4 : bt (⟨#[40, 91, 41, 93, 97, 98]⟩ : ByteArray) 4 = 97 := by decide
theorem bs5 : bt (⟨#[40, 91, 41, 93, 97, 98]⟩ : ByteArray) 5 = 98 := by decide

theorem symbol_ev (b : Int) : Ev (fun k => spec_l01Symbol.f k b) (sym b) := by
  unfold spec_l01Symbol.f sym
  have w1 : wrap64 (0 + 1) = 1 := by unfold wrap64; omega
  have w2 : wrap64 (1 + 1) = 2 := by unfold wrap64; omega
  have w3 : wrap64 (2 + 1) = 3 := by unfold wrap64; omega
  have w4 : wrap64 (3 + 1) = 4 := by unfold wrap64; omega
  have w5 : wrap64 (4 + 1) = 5 := by unfold wrap64; omega
  have w6 : wrap64 (5 + 1) = 6 := by unfold wrap64; omega
  refine Ev.succ ?_
  simp only [spec_l01Symbol.l0, bs0]
  by_cases h0 : b = 40
  · subst h0; exact Ev.done rfl
  rw [if_neg h0]
  simp only [if_neg (Ne.symm h0), w1]
  refine Ev.succ ?_
  simp only [spec_l01Symbol.l0, bs1]
  by_cases h0 : b = 91
  · subst h0; exact Ev.done rfl
  rw [if_neg h0]
  simp only [if_neg (Ne.symm h0), w2]
  refine Ev.succ ?_
  simp only [spec_l01Symbol.l0, bs2]
  by_cases h0 : b = 41
  · subst h0; exact Ev.done rfl
  rw [if_neg h0]
  simp only [if_neg (Ne.symm h0), w3]
  refine Ev.succ ?_
  simp only [spec_l01Symbol.l0, bs3]
  by_cases h0 : b = 93
  · subst h0; exact Ev.done rfl
  rw [if_neg h0]
  simp only [if_neg (Ne.symm h0), w4]
  refine Ev.succ ?_
  simp only [spec_l01Symbol.l0, bs4]
  by_cases h0 : b = 97
  · subst h0; exact Ev.done rfl
  rw [if_neg h0]
  simp only [if_neg (Ne.symm h0), w5]
  refine Ev.succ ?_
  simp only [spec_l01Symbol.l0, bs5]
  by_cases h0 : b = 98
  · subst h0; exact Ev.done rfl
  rw [if_neg h0]
  simp only [if_neg (Ne.symm h0), w6]
  refine Ev.succ ?_
  simp only [spec_l01Symbol.l0]
  exact Ev.done rfl

theorem index_eq {b : Int} (h0 : 0 ≤ b) (h1 : b ≤ 255) : strings_IndexByte.f (⟨#[40, 91, 41, 93, 97, 98]⟩ : ByteArray) b = some (sym b) := by
  obtain ⟨n, rfl⟩ := Int.eq_ofNat_of_zero_le h0
  have hn : n < 256 := by omega
  clear h0 h1
  unfold strings_IndexByte.f
  congr 1
  have key : ∀ n : Fin 256, Lib.indexByte (⟨#[40, 91, 41, 93, 97, 98]⟩ : ByteArray).data.toList ((n.val : Int).toNat.toUInt8) = sym (n.val : Int) := by decide +kernel
  exact key ⟨n, hn⟩

theorem specOk_loop (a : ByteArray) (hn : a.size ≤ 1048576) : ∀ d i : Nat, i + d = a.size →
    Ev (fun k => spec_l01Ok.l0 k a i) (allFrom (fun j => decide (0 ≤ sym (bt a j))) d i && decide ((a.size : Int) ≤ 60)) := by
  intro d
  induction d with
  | zero =>
    intro i hi
    refine Ev.succ ?_
    simp only [spec_l01Ok.l0, if_neg (show ¬ (i : Int) < (a.size : Int) by omega), allFrom, Bool.true_and]
    exact Ev.done rfl
  | succ d ih =>
    intro i hi
    refine Ev.succ ?_
    simp only [spec_l01Ok.l0, if_pos (show (i : Int) < (a.size : Int) by omega), if_pos (show (0 : Int) ≤ (i : Int) by omega), allFrom]
    refine Ev.bind (symbol_ev _) ?_
    rw [w64 (by omega) (by omega)]
    by_cases h : sym (bt a i) < 0
    · simp only [if_pos h]
      exact Ev.done (by simp; omega)
    · simp only [if_neg h]
      have := ih (i + 1) (by omega)
      simpa [show 0 ≤ sym (bt a i) by omega] using this

theorem specOk_ev (a : ByteArray) (hn : a.size ≤ 1048576) : Ev (fun k => spec_l01Ok.f k a) (okw a) := specOk_loop a hn a.size 0 (by omega)

theorem valid_loop (a : ByteArray) (hn : a.size ≤ 1048576) : ∀ d i : Nat, i + d = a.size →
    Ev (fun k => impl_ValidWord.l0 k a a.size i) (allFrom (fun j => decide (0 ≤ sym (bt a j))) d i && decide ((a.size : Int) ≤ 60)) := by
  intro d
  induction d with
  | zero =>
    intro i hi
    refine Ev.succ ?_
    simp only [impl_ValidWord.l0, if_neg (show ¬ (i : Int) < (a.size : Int) by omega), allFrom, Bool.true_and]
    exact Ev.done rfl
  | succ d ih =>
    intro i hi
    refine Ev.succ ?_
    have hb := bt_range a i
    simp only [impl_ValidWord.l0, if_pos (show (i : Int) < (a.size : Int) by omega), if_pos (show (0 : Int) ≤ (i : Int) by omega), allFrom, index_eq hb.1 hb.2, Option.bind_some]
    rw [w64 (by omega) (by omega)]
    by_cases h : sym (bt a i) < 0
    · simp only [if_pos h]
      exact Ev.done (by simp; omega)
    · simp only [if_neg h]
      have := ih (i + 1) (by omega)
      simpa [show 0 ≤ sym (bt a i) by omega] using this

theorem valid_ev (a : ByteArray) (hn : a.size ≤ 1048576) : Ev (fun k => impl_ValidWord.f k a) (okw a) := valid_loop a hn a.size 0 (by omega)

end Go.Proofs.Ytcaijfndmkdboaa.Br
namespace Go.Proofs.Ytcaijfndmkdboaa.Br
open Go.RowKit Go.Proofs.Ytcaijfndmkdboaa.K Go.Proofs.YtcaijfndmkdboaaW.PrintWords Go.Proofs.YtcaijfndmkdboaaW.PrintLast Go.Proofs.YtcaijfndmkdboaaW.PrintMore Go.Proofs.Ytcaijfndmkdboaa.Th
set_option linter.unusedVariables false
set_option linter.unusedSimpArgs false
theorem down {P : Nat → Prop} (n : Nat) (h0 : P n) (h1 : ∀ i, i < n → P (i + 1) → P i) : ∀ i, i ≤ n → P i := by
  have key : ∀ d i, i + d = n → P i := by
    intro d
    induction d with
    | zero => intro i hi; obtain rfl : i = n := by omega
              exact h0
    | succ d ih => intro i hi; exact h1 i (by omega) (ih (i + 1) (by omega))
  intro i hi
  exact key (n - i) i (by omega)
theorem up1 (i : Nat) (h : i < 9223372036854775807) : wrap64 ((i : Int) + 1) = ((i + 1 : Nat) : Int) := by
  rw [w64 (by omega) (by omega)]; rfl
theorem ilt {i n : Nat} (h : i < n) : (i : Int) < (n : Int) := by omega
theorem inlt {n : Nat} : ¬ ((n : Int) < (n : Int)) := by omega
theorem i0 (i : Nat) : 0 ≤ (i : Int) := by omega
theorem getD_mem {α : Type} (l : List α) (i : Nat) (d : α) (h : i < l.length) : l.getD i d ∈ l := by
  rw [List.getD_eq_getElem?_getD, List.getElem?_eq_getElem h]
  exact List.getElem_mem h
theorem take1 (a : Int) (n : Nat) (h0 : 0 ≤ a) (h1 : a ≤ 1048576) (hn : n ≤ 9223372036854775807) : wrap64 (a - (n : Int)) = a - (n : Int) := w64 (by omega) (by omega)

/-! ### loops, plainly -/
def allN (n : Nat) (e : Nat → Bool) : Bool := (List.range n).all e
def allFromN (n : Nat) (e : Nat → Bool) : Nat → Bool
  | i => (List.range n).all fun j => decide (j < i) || e j
theorem allFromN_zero (n : Nat) (e : Nat → Bool) : allFromN n e 0 = allN n e := by
  unfold allFromN allN
  simp
theorem allFromN_end (n : Nat) (e : Nat → Bool) : allFromN n e n = true := by
  unfold allFromN
  rw [List.all_eq_true]
  intro j hj
  simp [List.mem_range.1 hj]
theorem allFromN_step (n : Nat) (e : Nat → Bool) (i : Nat) (hi : i < n) : allFromN n e i = (e i && allFromN n e (i + 1)) := by
  unfold allFromN
  apply Bool.eq_iff_iff.2
  rw [Bool.and_eq_true, List.all_eq_true, List.all_eq_true]
  constructor
  · intro H
    refine ⟨by simpa using H i (List.mem_range.2 hi), fun j hj => ?_⟩
    have := H j hj
    simp only [Bool.or_eq_true, decide_eq_true_eq] at this ⊢
    rcases this with h1 | h1
    · exact .inl (by omega)
    · exact .inr h1
  · rintro ⟨H0, H⟩ j hj
    have := H j hj
    simp only [Bool.or_eq_true, decide_eq_true_eq] at this ⊢
    by_cases h : j = i
    · subst h; exact .inr H0
    · rcases this with h1 | h1
      · exact .inl (by omega)
      · exact .inr h1
theorem allLoop (n : Nat) (L : Nat → Nat → Option Bool) (e : Nat → Bool) (hend : Ev (L n) true) (hs : ∀ i, i < n → ∀ r, Ev (L (i + 1)) r → Ev (L i) (e i && r)) : Ev (L 0) (allN n e) := by
  rw [← allFromN_zero]
  refine down (P := fun i => Ev (L i) (allFromN n e i)) n ?_ ?_ 0 (by omega)
  · show Ev (L n) (allFromN n e n)
    rw [allFromN_end]; exact hend
  · intro i hi ih
    show Ev (L i) (allFromN n e i)
    rw [allFromN_step n e i hi]
    exact hs i hi _ ih
theorem eqEv {a b : Int} {r : Bool} {f : Nat → Option Bool} (k : Ev f r) : Ev (fun n => if a = b then f n else some false) (a == b && r) := by
  by_cases h : a = b
  · subst h; simp only [if_true, beq_self_eq_true, Bool.true_and]; exact k
  · simp only [if_neg h, beq_false_of_ne h, Bool.false_and]; exact Ev.now _
theorem lenEv {m n : Nat} {r : Bool} {f : Nat → Option Bool} (k : m = n → Ev f r) : Ev (fun q => if (m : Int) = (n : Int) then f q else some false) (decide (m = n) && r) := by
  by_cases h : m = n
  · simp only [if_pos (show (m : Int) = (n : Int) by omega), decide_eq_true h, Bool.true_and]; exact k h
  · simp only [if_neg (show ¬ (m : Int) = (n : Int) by omega), decide_eq_false h, Bool.false_and]; exact Ev.now _
theorem toLoop {β : Type} (n : Nat) (L : Nat → List β → Nat → Option (List β)) (v : List β) (d : β) (hv : v.length = n) (hend : ∀ o, Ev (L n o) o)
    (hs : ∀ i o, i < n → o.length = n → Ev (L (i + 1) (o.set i (v.getD i d))) v → Ev (L i o) v) : ∀ o, o.length = n → Ev (L 0 o) v := by
  have key : ∀ i, i ≤ n → ∀ o, o.length = n → o.take i = v.take i → Ev (L i o) v := by
    refine down n ?_ ?_
    · intro o ho ht
      have : o = v := by rw [← List.take_length (l := o), ho, ht, List.take_of_length_le (by omega)]
      subst this
      exact hend o
    · intro i hi ih o ho ht
      refine hs i o hi ho (ih _ (by simpa using ho) ?_)
      rw [List.take_add_one, List.take_add_one, List.take_set_of_le (by omega), ht, List.getElem?_set_self (by omega), List.getElem?_eq_getElem (show i < v.length by omega), List.getD_eq_getElem?_getD, List.getElem?_eq_getElem (show i < v.length by omega)]
      rfl
  intro o ho
  exact key 0 (by omega) o ho (by simp)
end Go.Proofs.Ytcaijfndmkdboaa.Br
namespace Go.Proofs.Ytcaijfndmkdboaa.Br
open Go.RowKit Go.Proofs.Ytcaijfndmkdboaa.K Go.Proofs.YtcaijfndmkdboaaW.PrintWords Go.Proofs.YtcaijfndmkdboaaW.PrintLast Go.Proofs.YtcaijfndmkdboaaW.PrintMore Go.Proofs.Ytcaijfndmkdboaa.Th
set_option linter.unusedVariables false
set_option linter.unusedSimpArgs false

/-! ### laws' queries -/
theorem szQueryStep_ev (b : Bool) (s : ByteArray) (a : Int) (h0 : 0 ≤ a) (h1 : a ≤ 1048576) (hs : s.size ≤ 9223372036854775807) :
    ∃ r, laws_szQueryStep.f b s a = some r ∧ (r < 0 ∨ (0 ≤ r ∧ r ≤ a ∧ (s.size : Int) ≤ 1048576)) := by
  unfold laws_szQueryStep.f
  rw [take1 a _ h0 h1 hs]
  by_cases h : a - (s.size : Int) < 0
  · exact ⟨-1, by rw [if_pos h], .inl (by omega)⟩
  · exact ⟨_, by rw [if_neg h], .inr (by omega)⟩
theorem szQuery_ev (l : List S175) (a : Int) (h0 : 0 ≤ a) (h1 : a ≤ 1048576) (hl : l.length ≤ 9223372036854775807) (hs : ∀ x ∈ l, x.f1.size ≤ 9223372036854775807) :
    ∃ r, Ev (fun k => laws_szQuery.f k l a) r ∧ (r < 0 ∨ (0 ≤ r ∧ r ≤ a ∧ (l.length : Int) ≤ 1048576 ∧ ∀ x ∈ l, (x.f1.size : Int) ≤ 1048576)) := by
  have loop : ∀ i, i ≤ l.length → ∀ c, 0 ≤ c → c ≤ 1048576 → ∃ r, Ev (fun k => laws_szQueryStepS.l0 k l c i) r ∧ (r < 0 ∨ (0 ≤ r ∧ r ≤ c ∧ ∀ j, i ≤ j → j < l.length → ((l.getD j z175).f1.size : Int) ≤ 1048576)) := by
    refine down l.length ?_ ?_
    · intro c hc _
      refine ⟨c, Ev.succ ?_, .inr ⟨hc, by omega, fun j h1 h2 => by omega⟩⟩
      simp only [laws_szQueryStepS.l0, if_neg inlt]
      exact Ev.now _
    · intro i hi ih c hc hc2
      have hm := getD_mem l i z175 hi
      obtain ⟨r, hr, hr2⟩ := szQueryStep_ev (l.getD i z175).f0 (l.getD i z175).f1 c hc hc2 (hs _ hm)
      by_cases hneg : r < 0
      · refine ⟨-1, Ev.succ ?_, .inl (by omega)⟩
        simp only [laws_szQueryStepS.l0, if_pos (ilt hi), if_pos (i0 i), rd_T175, Int.toNat_natCast, hr, Option.bind_some, if_pos hneg]
        exact Ev.now _
      · obtain ⟨q, hq, hq2⟩ := ih r (by omega) (by omega)
        refine ⟨q, Ev.succ ?_, ?_⟩
        · simp only [laws_szQueryStepS.l0, if_pos (ilt hi), if_pos (i0 i), rd_T175, Int.toNat_natCast, hr, Option.bind_some, if_neg hneg, up1 i (by omega)]
          exact hq
        · rcases hq2 with hq2 | ⟨q0, q1, q2⟩
          · exact .inl hq2
          · refine .inr ⟨q0, by omega, fun j hj1 hj2 => ?_⟩
            by_cases e : j = i
            · subst e; omega
            · exact q2 j (by omega) hj2
  unfold laws_szQuery.f laws_szQueryStepS.f
  rw [take1 a _ h0 h1 hl]
  by_cases h : a - (l.length : Int) < 0
  · exact ⟨-1, by simp only [if_pos h, Option.bind_some, show ((-1 : Int) < 0) = True from eq_true (by decide), if_true]; exact Ev.now _, .inl (by omega)⟩
  · obtain ⟨r, hr, hr2⟩ := loop 0 (by omega) (a - (l.length : Int)) (by omega) (by omega)
    by_cases hneg : r < 0
    · exact ⟨-1, by simp only [if_neg h]; exact hr.bind (by simp only [if_pos hneg]; exact Ev.now _), .inl (by omega)⟩
    · refine ⟨r, by simp only [if_neg h]; exact hr.bind (by simp only [if_neg hneg]; exact Ev.now _), .inr ⟨by omega, by omega, by omega, fun x hx => ?_⟩⟩
      obtain ⟨j, hj⟩ := List.getElem?_of_mem hx
      rcases hr2 with h2 | ⟨_, _, h2⟩
      · omega
      · have hlt := (List.getElem?_eq_some_iff.1 hj).1
        have := h2 j (by omega) hlt
        rwa [List.getD_eq_getElem?_getD, hj] at this
/-- A law's query as the program's. -/
def toQ (l : List S175) : List S130 := l.map fun x => ⟨x.f0, x.f1⟩
theorem toQuery_ev (l : List S175) (hl : l.length ≤ 1048576) : Ev (fun k => laws_toQuery.f k l) (toQ l) := by
  have loop : ∀ i, i ≤ l.length → ∀ o : List S130, o.length = l.length → o.take i = (toQ l).take i → Ev (fun k => laws_toQueryStepS.l0 k l o i) (toQ l) := by
    refine down l.length ?_ ?_
    · intro o ho ht
      have : o = toQ l := by rw [← List.take_length (l := o), ho, ht, List.take_of_length_le (by simp [toQ])]
      refine Ev.succ ?_
      simp only [laws_toQueryStepS.l0, if_neg inlt]
      exact Ev.done (by rw [this])
    · intro i hi ih o ho ht
      refine Ev.succ ?_
      simp only [laws_toQueryStepS.l0, if_pos (ilt hi), if_pos (i0 i), rd_T175, Int.toNat_natCast, laws_toQueryStep.f, Option.bind_some, if_pos (ilt (show i < o.length by omega)), up1 i (by omega)]
      refine ih _ (by simpa using ho) ?_
      rw [List.take_add_one, List.take_add_one, List.take_set_of_le (by omega), ht]
      have e1 : (o.set i (⟨(l.getD i z175).f0, (l.getD i z175).f1⟩ : S130))[i]? = some ⟨(l.getD i z175).f0, (l.getD i z175).f1⟩ := by
        rw [List.getElem?_set_self (by omega)]
      have e2 : (toQ l)[i]? = some ⟨(l.getD i z175).f0, (l.getD i z175).f1⟩ := by
        unfold toQ
        rw [List.getElem?_map, List.getElem?_eq_getElem hi, List.getD_eq_getElem?_getD, List.getElem?_eq_getElem hi]
        rfl
      rw [e1, e2]
  unfold laws_toQuery.f laws_toQueryStepS.f
  simp only [if_pos (i0 l.length), Int.toNat_natCast, if_pos (show l.length ≤ 11728124029610 by omega)]
  refine Ev.bind (loop 0 (by omega) _ (by simp) (by simp)) (Ev.now _)
theorem eqQuery_ev (l : List S130) (hl : l.length ≤ 1048576) : Ev (fun k => laws_eqQuery.f k l l) true := by
  have loop : ∀ i, i ≤ l.length → Ev (fun k => laws_eqQueryStepS.l0 k l l i) true := by
    refine down l.length ?_ ?_
    · refine Ev.succ ?_
      simp only [laws_eqQueryStepS.l0, if_neg inlt]
      exact Ev.now _
    · intro i hi ih
      refine Ev.succ ?_
      simp only [laws_eqQueryStepS.l0, if_pos (ilt hi), if_pos (i0 i), laws_eqQueryStep.f, bne_self_eq_false, Bool.false_eq_true, if_false, if_true, Option.bind_some, up1 i (by omega)]
      exact ih
  unfold laws_eqQuery.f laws_eqQueryStepS.f
  simp only [if_true]
  exact Ev.bind (loop 0 (by omega)) (by simp only [if_true]; exact Ev.now _)
theorem toQ_length (l : List S175) : (toQ l).length = l.length := by simp [toQ]
end Go.Proofs.Ytcaijfndmkdboaa.Br
namespace Go.Proofs.Ytcaijfndmkdboaa.Br
open Go.RowKit Go.Proofs.Ytcaijfndmkdboaa.K Go.Proofs.YtcaijfndmkdboaaW.PrintWords Go.Proofs.YtcaijfndmkdboaaW.PrintLast Go.Proofs.YtcaijfndmkdboaaW.PrintMore Go.Proofs.Ytcaijfndmkdboaa.Th
set_option linter.unusedVariables false
set_option linter.unusedSimpArgs false
theorem isReturn_eq (b : Int) : impl_isReturn.f b = some (isR b) := by
  unfold impl_isReturn.f isR
  by_cases h : b = 41 <;> simp [h]
theorem isCall_eq (b : Int) : impl_isCall.f b = some (isC b) := by
  unfold impl_isCall.f isC
  by_cases h : b = 40 <;> simp [h]
theorem sReturn_eq (b : Int) : spec_l01Return.f b = some (isR b) := by
  unfold spec_l01Return.f isR
  by_cases h : b = 41 <;> simp [h]
theorem sCall_eq (b : Int) : spec_l01Call.f b = some (isC b) := by
  unfold spec_l01Call.f isC
  by_cases h : b = 40 <;> simp [h]

theorem rd_last {c : List Int} (h : c ≠ []) : rd c ((c.length : Int) - 1) = top c := by
  unfold rd top
  have : 0 < c.length := List.length_pos_iff.2 h
  rw [List.getLast?_eq_getElem?, List.getD_eq_getElem?_getD, show ((c.length : Int) - 1).toNat = c.length - 1 by omega, List.getElem?_eq_getElem (by omega)]
  rfl

theorem top_nil {c : List Int} (h : c = []) : top c = -1 := by subst h; rfl
theorem take_last {c : List Int} : c.take ((c.length : Int) - 1).toNat = c.dropLast := by
  rw [List.dropLast_eq_take, show ((c.length : Int) - 1).toNat = c.length - 1 by omega]

/-- From the head of j2 on: the parent is told, a call is put on the stack, the rows grow. -/
theorem match_j2 (a : ByteArray) (hn : a.size ≤ 1048576) (i : Nat) (hi : i < a.size) (x6 : Int) (p r c d q : List Int) (R : List Int × List Int × List Int × List Int × List Int)
    (lp : p.length ≤ i) (lr : r.length ≤ i + 1) (lc : c.length ≤ i) (ld : d.length ≤ i + 1) (lq : q.length ≤ i)
    (h : if isC (bt a i) = true then Ev (fun k => impl_match.l0 k a a.size (i + 1 : Nat) (p ++ [-2]) r (c ++ [(i : Int)]) (d ++ [(c.length : Int) + 1]) (q ++ [top c])) R
         else Ev (fun k => impl_match.l0 k a a.size (i + 1 : Nat) (p ++ [x6]) r c (d ++ [(c.length : Int)]) (q ++ [top c])) R) :
    Ev (fun k => impl_match.j2 k a i i x6 a.size i p r c d q) R := by
  have j3 : Ev (fun k => impl_match.j3 k a i i x6 (top c) a.size i p r c d q) R := by
    refine Ev.succ ?_
    simp only [impl_match.j3, if_pos (show (0 : Int) ≤ (i : Int) by omega), if_pos (show (i : Int) < (a.size : Int) by omega), isCall_eq, Option.bind_some]
    have j4 : ∀ (x : Int) (c2 : List Int), c2.length ≤ i + 1 → Ev (fun k => impl_match.l0 k a a.size (i + 1 : Nat) (p ++ [x]) r c2 (d ++ [(c2.length : Int)]) (q ++ [top c])) R → Ev (fun k => impl_match.j4 k a x (top c) a.size i p r c2 d q) R := by
      intro x c2 l2 h2
      refine Ev.succ ?_
      simp only [impl_match.j4, Option.bind_some, impl_size_int64.f, List.length_cons, List.length_nil]
      rw [w64 (by omega) (by omega)]
      simp only [if_pos (show p.length + (0 + 1) < 17592186044416 by omega), if_pos (show q.length + (0 + 1) < 17592186044416 by omega), if_pos (show d.length + (0 + 1) < 17592186044416 by omega)]
      exact h2
    by_cases hC : isC (bt a i) = true
    · simp only [hC, if_true, List.length_cons, List.length_nil, if_pos (show c.length + (0 + 1) < 17592186044416 by omega)] at h ⊢
      refine j4 (-2) (c ++ [(i : Int)]) (by simp; omega) ?_
      simpa using h
    · simp only [if_neg hC] at h ⊢
      exact j4 x6 c (by omega) h
  refine Ev.succ ?_
  simp only [impl_match.j2]
  by_cases hc : c = []
  · simp only [if_neg (show ¬ (c.length : Int) > 0 by simp [hc])]
    rw [top_nil hc] at j3
    exact j3
  · have : 0 < c.length := List.length_pos_iff.2 hc
    rw [w64 (by omega) (by omega)]
    simp only [if_pos (show (c.length : Int) > 0 by omega), if_pos (show 0 ≤ (c.length : Int) - 1 by omega), if_pos (show (c.length : Int) - 1 < (c.length : Int) by omega), rd_last hc]
    exact j3

theorem match_loop (a : ByteArray) (hn : a.size ≤ 1048576) : ∀ d i : Nat, i + d = a.size →
    Ev (fun k => impl_match.l0 k a a.size i (st (bt a) i).p (st (bt a) i).r (st (bt a) i).c (st (bt a) i).d (st (bt a) i).q)
      ((st (bt a) a.size).p, (st (bt a) a.size).r, (st (bt a) a.size).c, (st (bt a) a.size).d, (st (bt a) a.size).q) := by
  intro d
  induction d with
  | zero =>
    intro i hi
    obtain rfl : i = a.size := by omega
    refine Ev.succ ?_
    simp only [impl_match.l0, if_neg (show ¬ (a.size : Int) < (a.size : Int) by omega)]
    exact Ev.now _
  | succ d ih =>
    intro i hi
    have B := basic (bt a) i
    have hnext := ih (i + 1) (by omega)
    have hst : st (bt a) (i + 1) = Th.step (st (bt a) i) i (bt a i) := rfl
    rw [hst] at hnext
    obtain ⟨lp, lq, ld, lr, lc, hc, hr⟩ := B
    generalize st (bt a) i = s at *
    refine Ev.succ ?_
    simp only [impl_match.l0, if_pos (show (i : Int) < (a.size : Int) by omega), if_pos (show (0 : Int) ≤ (i : Int) by omega), isReturn_eq, Option.bind_some]
    by_cases hR : isR (bt a i) = true
    · have hC := isR_notC hR
      simp only [hR, if_true]
      refine Ev.succ ?_
      simp only [impl_match.j1]
      by_cases he : s.c = []
      · simp only [he, List.length_nil, Int.ofNat_zero, Int.natCast_zero, BEq.rfl, if_true, Option.bind_some, List.length_cons]
        simp only [if_pos (show s.r.length + (0 + 1) < 17592186044416 by omega)]
        refine match_j2 a hn i (by omega) (-2) _ _ _ _ _ _ (by omega) (by simp; omega) (by simp) (by omega) (by omega) ?_
        rw [if_neg (by simp [hC])]
        simp only [Th.step, hR, if_true, he] at hnext
        exact hnext
      · have hl : 0 < s.c.length := List.length_pos_iff.2 he
        have ht := hc _ (top_mem he)
        have hz : ((s.c.length : Int) == 0) = false := by simp; omega
        simp only [hz, Bool.false_eq_true, if_false]
        rw [w64 (by omega) (by omega)]
        simp only [if_pos (show (0 : Int) ≤ (i : Int) by omega), if_pos (show (i : Int) < (a.size : Int) by omega), isReturn_eq, Option.bind_some, hR, if_true,
          if_pos (show 0 ≤ (s.c.length : Int) - 1 by omega), if_pos (show (s.c.length : Int) - 1 < (s.c.length : Int) by omega), rd_last he, if_pos ht.1, if_pos (show top s.c < (s.p.length : Int) by omega), if_pos (show (s.c.length : Int) - 1 ≤ (s.c.length : Int) by omega), take_last]
        refine match_j2 a hn i (by omega) _ _ _ _ _ _ _ (by simp; omega) (by omega) (by simp; omega) (by omega) (by omega) ?_
        rw [if_neg (by simp [hC])]
        simp only [Th.step, hR, if_true, if_neg he] at hnext
        exact hnext
    · have hR' : isR (bt a i) = false := by simpa using hR
      simp only [hR', Bool.false_eq_true, if_false]
      refine Ev.succ ?_
      simp only [impl_match.j1, Bool.false_eq_true, if_false, if_pos (show (0 : Int) ≤ (i : Int) by omega), if_pos (show (i : Int) < (a.size : Int) by omega), isReturn_eq, Option.bind_some, hR']
      refine match_j2 a hn i (by omega) (-1) _ _ _ _ _ _ (by omega) (by omega) (by omega) (by omega) (by omega) ?_
      by_cases hC : isC (bt a i) = true
      · rw [if_pos hC]
        simp only [Th.step, hR', Bool.false_eq_true, if_false, hC, if_true] at hnext
        exact hnext
      · rw [if_neg hC]
        simp only [Th.step, hR', Bool.false_eq_true, if_false, hC] at hnext
        exact hnext

theorem match_ev (a : ByteArray) (hn : a.size ≤ 1048576) : Ev (fun k => impl_match.f k a)
    ((st (bt a) a.size).p, (st (bt a) a.size).r, (st (bt a) a.size).c, (st (bt a) a.size).d, (st (bt a) a.size).q) := match_loop a hn a.size 0 (by omega)

end Go.Proofs.Ytcaijfndmkdboaa.Br
namespace Go.Proofs.Ytcaijfndmkdboaa.Br
open Go.RowKit Go.Proofs.Ytcaijfndmkdboaa.K Go.Proofs.YtcaijfndmkdboaaW.PrintWords Go.Proofs.YtcaijfndmkdboaaW.PrintLast Go.Proofs.YtcaijfndmkdboaaW.PrintMore Go.Proofs.Ytcaijfndmkdboaa.Th
set_option linter.unusedVariables false
set_option linter.unusedSimpArgs false
theorem partners_loop (a : ByteArray) (hn : a.size ≤ 1048576) : ∀ d i : Nat, i + d = a.size →
    Ev (fun k => spec_l01Partners.l0 k a (st (bt a) i).p (st (bt a) i).c i) (st (bt a) a.size).p := by
  intro d
  induction d with
  | zero =>
    intro i hi
    obtain rfl : i = a.size := by omega
    refine Ev.succ ?_
    simp only [spec_l01Partners.l0, if_neg (show ¬ (a.size : Int) < (a.size : Int) by omega)]
    exact Ev.now _
  | succ d ih =>
    intro i hi
    have B := basic (bt a) i
    have hnext := ih (i + 1) (by omega)
    have hst : st (bt a) (i + 1) = Th.step (st (bt a) i) i (bt a i) := rfl
    rw [hst] at hnext
    obtain ⟨lp, lq, ld, lr, lc, hc, hr⟩ := B
    generalize st (bt a) i = s at *
    refine Ev.succ ?_
    simp only [spec_l01Partners.l0, if_pos (show (i : Int) < (a.size : Int) by omega), if_pos (show (0 : Int) ≤ (i : Int) by omega), sCall_eq, sReturn_eq, Option.bind_some]
    by_cases hC : isC (bt a i) = true
    · have hR : isR (bt a i) = false := by
        cases h : isR (bt a i) with
        | false => rfl
        | true => rw [isR_notC h] at hC; cases hC
      simp only [hC, if_true]
      rw [w64 (by omega) (by omega)]
      simp only [if_pos (show s.p.length < 17592186044416 by omega), if_pos (show s.c.length < 17592186044416 by omega)]
      simp only [Th.step, hR, Bool.false_eq_true, if_false, hC, if_true] at hnext
      exact hnext
    · have hC' : isC (bt a i) = false := by simpa using hC
      simp only [hC', Bool.false_eq_true, if_false]
      by_cases hR : isR (bt a i) = true
      · simp only [hR, if_true]
        refine Ev.succ ?_
        simp only [spec_l01Partners.j1]
        by_cases he : s.c = []
        · simp only [he, List.length_nil, show decide (((0 : Nat) : Int) > 0) = false by decide, Bool.false_eq_true, if_false, if_pos (show (i : Int) < (a.size : Int) by omega), if_pos (show (0 : Int) ≤ (i : Int) by omega), sReturn_eq, Option.bind_some, hR, if_true, if_pos (show s.p.length < 17592186044416 by omega)]
          rw [w64 (by omega) (by omega)]
          simp only [Th.step, hR, if_true, he] at hnext
          exact hnext
        · have hl : 0 < s.c.length := List.length_pos_iff.2 he
          have ht := hc _ (top_mem he)
          rw [w64 (show -9223372036854775808 ≤ (s.c.length : Int) - 1 by omega) (by omega), w64 (by omega) (by omega)]
          simp only [show decide ((s.c.length : Int) > 0) = true by simp; omega, if_true, Option.bind_some,
            if_pos (show 0 ≤ (s.c.length : Int) - 1 by omega), if_pos (show (s.c.length : Int) - 1 < (s.c.length : Int) by omega), rd_last he, if_pos ht.1, if_pos (show top s.c < (s.p.length : Int) by omega), if_pos (show (s.c.length : Int) - 1 ≤ (s.c.length : Int) by omega), take_last, List.length_set, if_pos (show s.p.length < 17592186044416 by omega)]
          simp only [Th.step, hR, if_true, if_neg he] at hnext
          exact hnext
      · have hR' : isR (bt a i) = false := by simpa using hR
        simp only [hR', Bool.false_eq_true, if_false]
        refine Ev.succ ?_
        simp only [spec_l01Partners.j1, Bool.false_eq_true, if_false, if_pos (show (i : Int) < (a.size : Int) by omega), if_pos (show (0 : Int) ≤ (i : Int) by omega), sReturn_eq, Option.bind_some, hR', if_pos (show s.p.length < 17592186044416 by omega)]
        rw [w64 (by omega) (by omega)]
        simp only [Th.step, hR', Bool.false_eq_true, if_false, hC'] at hnext
        exact hnext

theorem partners_ev (a : ByteArray) (hn : a.size ≤ 1048576) : Ev (fun k => spec_l01Partners.f k a) (st (bt a) a.size).p := partners_loop a hn a.size 0 (by omega)

theorem g_rd (l : List Int) (i : Nat) : rd l i = g l i := by unfold rd g; simp

end Go.Proofs.Ytcaijfndmkdboaa.Br
namespace Go.Proofs.Ytcaijfndmkdboaa.Th

/-- What is open at a place, behind its own return. -/
def opn (b : Int → Int) (i : Nat) : List Int := if isR (b i) = true then (st b i).c.dropLast else (st b i).c

theorem step_q (b : Int → Int) (i : Nat) : (st b (i + 1)).q = (st b i).q ++ [top (opn b i)] := by
  show (step (st b i) i (b i)).q = _
  unfold step opn
  by_cases hR : isR (b i) = true
  · by_cases he : (st b i).c = []
    · simp only [hR, if_true, he]
      rfl
    · simp only [hR, if_true, if_neg he]
  · by_cases hC : isC (b i) = true
    · simp only [hR, hC, if_true]
      rfl
    · simp only [hR, hC]
      rfl

theorem q_stable (b : Int → Int) (i : Nat) : ∀ d, g (st b (i + 1 + d)).q i = g (st b (i + 1)).q i
  | 0 => rfl
  | d + 1 => by
    have h := q_stable b i d
    rw [← h]
    show g (st b ((i + 1 + d) + 1)).q i = _
    rw [step_q, g_append_left]
    rw [(basic b (i + 1 + d)).lq]; omega

theorem opn_mem (b : Int → Int) (i : Nat) (k : Nat) (hk : k < i) : (k : Int) ∈ opn b i ↔ (k : Int) ∈ (st b (i + 1)).c := by
  show _ ↔ (k : Int) ∈ (step (st b i) i (b i)).c
  unfold opn step
  by_cases hR : isR (b i) = true
  · by_cases he : (st b i).c = []
    · simp [hR, he]
    · simp [hR, he]
  · by_cases hC : isC (b i) = true
    · simp only [hR, hC, if_true]
      simp
      omega
    · simp [hR, hC]

theorem opn_inc (b : Int → Int) (i : Nat) : (opn b i).Pairwise (· < ·) := by
  have h := (List.pairwise_append.1 (inv b i).inc).2.1
  unfold opn
  split
  · exact h.sublist (List.dropLast_sublist _)
  · exact h

theorem opn_lt (b : Int → Int) (i : Nat) : ∀ x ∈ opn b i, 0 ≤ x ∧ x < i := by
  intro x hx
  refine (basic b i).hc x ?_
  unfold opn at hx
  split at hx
  · exact List.dropLast_subset _ hx
  · exact hx

theorem opn_sel (b : Int → Int) {i n : Nat} (hi : i < n) : opn b i = sel (fun k => isC (b k) && (g (st b n).p k == -2 || decide ((i : Int) < g (st b n).p k))) i := by
  refine inc_ext (opn_inc b i) (sel_inc i) fun x => ?_
  rw [mem_sel]
  constructor
  · intro hx
    obtain ⟨h0, h1⟩ := opn_lt b i x hx
    obtain ⟨k, rfl⟩ := Int.eq_ofNat_of_zero_le h0
    have hk : k < i := by omega
    refine ⟨k, hk, rfl, ?_⟩
    have := (onstack b (i + 1) n (by omega) k (by omega)).1 ((opn_mem b i k hk).1 hx)
    obtain ⟨a1, a2⟩ := this
    simp only [a1, Bool.true_and, Bool.or_eq_true, beq_iff_eq, decide_eq_true_eq]
    rcases a2 with a2 | a2
    · exact Or.inl a2
    · right; omega
  · rintro ⟨k, hk, rfl, h⟩
    simp only [Bool.and_eq_true, Bool.or_eq_true, beq_iff_eq, decide_eq_true_eq] at h
    refine (opn_mem b i k hk).2 ((onstack b (i + 1) n (by omega) k (by omega)).2 ⟨h.1, ?_⟩)
    rcases h.2 with a2 | a2
    · exact Or.inl a2
    · right; omega

theorem parents_eq (b : Int → Int) {i n : Nat} (hi : i < n) : g (st b n).q i = top (sel (fun k => isC (b k) && (g (st b n).p k == -2 || decide ((i : Int) < g (st b n).p k))) i) := by
  obtain ⟨d, rfl⟩ := Nat.exists_eq_add_of_le (show i + 1 ≤ n by omega)
  rw [q_stable, step_q, g_append_end (basic b i).lq.symm, opn_sel b hi]

theorem top_snoc (l : List Int) (x : Int) : top (l ++ [x]) = x := by unfold top; simp

end Go.Proofs.Ytcaijfndmkdboaa.Th
namespace Go.Proofs.Ytcaijfndmkdboaa.Br
open Go.RowKit Go.Proofs.Ytcaijfndmkdboaa.K Go.Proofs.YtcaijfndmkdboaaW.PrintWords Go.Proofs.YtcaijfndmkdboaaW.PrintLast Go.Proofs.YtcaijfndmkdboaaW.PrintMore Go.Proofs.Ytcaijfndmkdboaa.Th
set_option linter.unusedVariables false
set_option linter.unusedSimpArgs false
theorem parents_in (a : ByteArray) (hn : a.size ≤ 1048576) (p : List Int) (hp : p.length = a.size) (i : Nat) (hi : i < a.size) (x4 : List Int) (R : List Int) (hx : x4.length < 17592186044416)
    (h : Ev (fun k => spec_l01Parents.l0 k a p (x4 ++ [top (sel (fun k => isC (bt a k) && (g p k == -2 || decide ((i : Int) < g p k))) i)]) ((i + 1 : Nat) : Int)) R) : ∀ d j : Nat, j + d = i →
    Ev (fun k => spec_l01Parents.l1 k a p x4 i (top (sel (fun k => isC (bt a k) && (g p k == -2 || decide ((i : Int) < g p k))) j)) j) R := by
  intro d
  induction d with
  | zero =>
    intro j hj
    obtain rfl : j = i := by omega
    have f3 : wrap64 ((j : Int) + 1) = ((j + 1 : Nat) : Int) := by rw [w64 (by omega) (by omega)]; push_cast; rfl
    refine Ev.succ ?_
    simp only [spec_l01Parents.l1, if_neg (show ¬ (j : Int) < (j : Int) by omega), if_pos hx, f3]
    exact h
  | succ d ih =>
    intro j hj
    have hnext := ih (j + 1) (by omega)
    have b1 : (j : Int) < (i : Int) := by omega
    have b2 : (0 : Int) ≤ (j : Int) := by omega
    have b3 : (j : Int) < (a.size : Int) := by omega
    have b4 : (j : Int) < (p.length : Int) := by omega
    have f3 : wrap64 ((j : Int) + 1) = ((j + 1 : Nat) : Int) := by rw [w64 (by omega) (by omega)]; push_cast; rfl
    refine Ev.succ ?_
    simp only [spec_l01Parents.l1, if_pos b1, if_pos b2, if_pos b3, if_pos b4, sCall_eq, Option.bind_some, g_rd, f3, gt_iff_lt]
    rw [sel] at hnext
    by_cases hC : isC (bt a j) = true
    · simp only [hC, if_true]
      by_cases h2 : g p j = -2
      · simp only [h2, if_true]
        simp only [hC, h2, BEq.rfl, Bool.true_or, Bool.and_self, if_true, top_snoc] at hnext
        exact hnext
      · simp only [h2, if_false]
        by_cases h3 : (i : Int) < g p j
        · simp only [h3, if_true]
          simp only [hC, h3, decide_true, Bool.or_true, Bool.and_self, if_true, top_snoc] at hnext
          exact hnext
        · simp only [h3, if_false]
          simp only [hC, beq_eq_false_iff_ne.2 h2, h3, decide_false, Bool.or_self, Bool.and_false, Bool.false_eq_true, if_false] at hnext
          exact hnext
    · simp only [hC, if_false]
      simp only [hC, Bool.false_and, Bool.false_eq_true, if_false] at hnext
      exact hnext

theorem parents_loop (a : ByteArray) (hn : a.size ≤ 1048576) : ∀ d i : Nat, i + d = a.size →
    Ev (fun k => spec_l01Parents.l0 k a (st (bt a) a.size).p ((st (bt a) a.size).q.take i) i) (st (bt a) a.size).q := by
  have B := basic (bt a) a.size
  intro d
  induction d with
  | zero =>
    intro i hi
    obtain rfl : i = a.size := by omega
    refine Ev.succ ?_
    simp only [spec_l01Parents.l0, if_neg (show ¬ (a.size : Int) < (a.size : Int) by omega)]
    exact Ev.done (by rw [List.take_of_length_le (by have := B.lq; omega)])
  | succ d ih =>
    intro i hi
    have hnext := ih (i + 1) (by omega)
    have b1 : (i : Int) < (a.size : Int) := by omega
    refine Ev.succ ?_
    simp only [spec_l01Parents.l0, if_pos b1]
    refine parents_in a hn _ B.lp i (by omega) _ _ (by rw [List.length_take, B.lq]; omega) ?_ i 0 (Nat.zero_add _)
    rw [← parents_eq (bt a) (show i < a.size by omega)]
    have : (st (bt a) a.size).q.take i ++ [g (st (bt a) a.size).q i] = (st (bt a) a.size).q.take (i + 1) := by
      have hl : i < (st (bt a) a.size).q.length := by rw [B.lq]; omega
      rw [List.take_succ_eq_append_getElem hl, g, List.getD_eq_getElem?_getD, List.getElem?_eq_getElem hl]
      rfl
    rw [this]
    exact hnext

theorem parents_ev (a : ByteArray) (hn : a.size ≤ 1048576) : Ev (fun k => spec_l01Parents.f k a) (st (bt a) a.size).q := by
  unfold spec_l01Parents.f
  refine Ev.bind (partners_ev a hn) ?_
  have := parents_loop a hn a.size 0 (Nat.zero_add _)
  simpa using this
theorem in_eq (a lo hi : Int) : spec_l00In.f a lo hi = some (decide (lo ≤ a ∧ a ≤ hi)) := by
  unfold spec_l00In.f
  by_cases h : a ≥ lo
  · rw [if_pos h]; congr 1; simp; omega
  · rw [if_neg h]; congr 1; simp; omega
theorem within_eq (a lo hi : Int) : impl_within.f a lo hi = some (decide (lo ≤ a ∧ a ≤ hi)) := by
  unfold impl_within.f
  by_cases h : a ≥ lo
  · rw [if_pos h]; congr 1; simp; omega
  · rw [if_neg h]; congr 1; simp; omega

end Go.Proofs.Ytcaijfndmkdboaa.Br
namespace Go.Proofs.Ytcaijfndmkdboaa.Br
open Go.RowKit Go.Proofs.Ytcaijfndmkdboaa.K Go.Proofs.YtcaijfndmkdboaaW.PrintWords Go.Proofs.YtcaijfndmkdboaaW.PrintLast Go.Proofs.YtcaijfndmkdboaaW.PrintMore Go.Proofs.Ytcaijfndmkdboaa.Th
set_option linter.unusedVariables false
set_option linter.unusedSimpArgs false
/-- The greatest of some numbers and a first one. -/
def most (x : Int) (l : List Int) : Int := l.foldl mx x

end Go.Proofs.Ytcaijfndmkdboaa.Br
namespace Go.Proofs.Ytcaijfndmkdboaa.Br
open Go.RowKit Go.Proofs.Ytcaijfndmkdboaa.K Go.Proofs.YtcaijfndmkdboaaW.PrintWords Go.Proofs.YtcaijfndmkdboaaW.PrintLast Go.Proofs.YtcaijfndmkdboaaW.PrintMore Go.Proofs.Ytcaijfndmkdboaa.Th
set_option linter.unusedVariables false
set_option linter.unusedSimpArgs false
/-- Is a text a test. -/
def tst (l : List UInt8) : Bool := l == [40] || l == [91] || l == [97] || l == [98] || l == [42] || l == [46]

theorem toList_len (a : ByteArray) : a.toList.length = a.size := by rw [Lib.toList_data]; simp
theorem toList_one {a : ByteArray} (h : a.size = 1) : ∃ c : UInt8, a = ⟨#[c]⟩ ∧ a.toList = [c] := by
  obtain ⟨⟨l⟩⟩ := a
  match l, h with
  | [c], _ => exact ⟨c, rfl, by rw [Lib.toList_data]⟩

theorem sTest_eq (a : ByteArray) : spec_l05Test.f a = some (tst a.toList) := by
  unfold spec_l05Test.f tst
  by_cases h1 : a.toList = [40]
  · simp [h1]
  · by_cases h2 : a.toList = [91]
    · simp [h2]
    · by_cases h3 : a.toList = [97]
      · simp [h3]
      · by_cases h4 : a.toList = [98]
        · simp [h4]
        · by_cases h5 : a.toList = [42]
          · simp [h5]
          · simp [h1, h2, h3, h4, h5]

theorem iTest_eq (a : ByteArray) : impl_isTest.f a = some (tst a.toList) := by
  unfold impl_isTest.f
  by_cases h : a.size = 1
  · obtain ⟨c, rfl, hl⟩ := toList_one h
    rw [if_pos (by rw [h]; rfl)]
    unfold strings_Contains.f
    rw [if_pos h, hl]
    simp only [Option.bind_some]
    congr 1
    show decide (0 ≤ Lib.indexByte [40, 91, 97, 98, 42, 46] c) = tst [c]
    have key : ∀ n : Fin 256, decide (0 ≤ Lib.indexByte [40, 91, 97, 98, 42, 46] (UInt8.ofNat n.val)) = tst [UInt8.ofNat n.val] := by decide +kernel
    have := key ⟨c.toNat, c.toNat_lt⟩
    simpa using this
  · rw [if_neg (by omega)]
    have hl := toList_len a
    unfold tst
    have : ∀ x : UInt8, (a.toList == [x]) = false := by
      intro x
      rw [beq_eq_false_iff_ne]
      intro e
      rw [e] at hl
      simp at hl
      omega
    simp [this]

theorem isInner_eq (b : Int) : impl_isInner.f b = some (b == 97 || b == 98) := by
  unfold impl_isInner.f
  by_cases h : b = 97 <;> simp [h]

/-- Does a symbol pass a test. -/
def pss (l : List UInt8) (b : Int) : Bool := if l = [42] then isC b else if l = [46] then b == 97 || b == 98 else ((l.headD 0).toNat : Int) == b

theorem sPasses_eq (a : ByteArray) (h : a.size = 1) (b : Int) (h0 : 0 ≤ b) (h1 : b ≤ 255) : spec_l05Passes.f a b = some (pss a.toList b) := by
  obtain ⟨c, rfl, hl⟩ := toList_one h
  unfold spec_l05Passes.f pss
  rw [hl]
  by_cases h2 : [c] = [(42 : UInt8)]
  · rw [if_pos h2, if_pos h2, sCall_eq]; rfl
  · rw [if_neg h2, if_neg h2]
    by_cases h3 : [c] = [(46 : UInt8)]
    · rw [if_pos h3, if_pos h3]
      by_cases h4 : b = 97 <;> simp [h4]
    · rw [if_neg h3, if_neg h3, Lib.toList_data]
      congr 1
      obtain ⟨n, rfl⟩ := Int.eq_ofNat_of_zero_le h0
      show ([c] == [UInt8.ofNat n]) = _
      have hn : n < 256 := by omega
      have e1 : (c == UInt8.ofNat n) = ((c.toNat : Int) == (n : Int)) := by
        rw [Bool.eq_iff_iff]
        simp only [beq_iff_eq]
        constructor
        · rintro rfl
          simp
          omega
        · intro e
          have : c.toNat = n := by exact_mod_cast e
          rw [← this]
          simp
      simpa using e1
theorem iPasses_eq (a : ByteArray) (h : a.size = 1) (b : Int) : impl_passes.f a b = some (pss a.toList b) := by
  obtain ⟨c, rfl, hl⟩ := toList_one h
  unfold impl_passes.f pss
  rw [hl]
  by_cases h2 : [c] = [(42 : UInt8)]
  · rw [if_pos h2, if_pos h2, isCall_eq]; rfl
  · rw [if_neg h2, if_neg h2]
    by_cases h3 : [c] = [(46 : UInt8)]
    · rw [if_pos h3, if_pos h3, isInner_eq]; rfl
    · rw [if_neg h3, if_neg h3, if_pos (by rw [h]; decide)]
      congr 1

theorem tst_size {a : ByteArray} (h : tst a.toList = true) : a.size = 1 := by
  have hl := toList_len a
  unfold tst at h
  simp only [Bool.or_eq_true, beq_iff_eq] at h
  rcases h with ((((h | h) | h) | h) | h) | h <;> rw [h] at hl <;> exact hl.symm

end Go.Proofs.Ytcaijfndmkdboaa.Br
namespace Go.Proofs.Ytcaijfndmkdboaa.Br
open Go.RowKit Go.Proofs.Ytcaijfndmkdboaa.K Go.Proofs.YtcaijfndmkdboaaW.PrintWords Go.Proofs.YtcaijfndmkdboaaW.PrintLast Go.Proofs.YtcaijfndmkdboaaW.PrintMore Go.Proofs.Ytcaijfndmkdboaa.Th
set_option linter.unusedVariables false
set_option linter.unusedSimpArgs false
theorem drop_all {α : Type} (l : List α) (p : α → Bool) (i : Nat) (d : α) (h : i < l.length) : (l.drop i).all p = (p (l.getD i d) && (l.drop (i + 1)).all p) := by
  rw [List.drop_eq_getElem_cons h, List.all_cons, List.getD_eq_getElem?_getD, List.getElem?_eq_getElem h]
  rfl
theorem drop_end {α : Type} (l : List α) : l.drop l.length = [] := List.drop_length
def tstS (x : S130) : Bool := tst x.f1.toList
def okQ (l : List S130) : Bool := l.all tstS && decide (1 ≤ (l.length : Int) ∧ (l.length : Int) ≤ 6)
theorem specOkQ_ev (l : List S130) (hl : l.length ≤ 1048576) : Ev (fun k => spec_l05Ok.f k l) (okQ l) := by
  have loop : ∀ i, i ≤ l.length → Ev (fun k => spec_l05Ok.l0 k i l) ((l.drop i).all tstS && decide (1 ≤ (l.length : Int) ∧ (l.length : Int) ≤ 6)) := by
    refine down l.length ?_ ?_
    · refine Ev.succ ?_
      simp only [spec_l05Ok.l0, if_neg inlt, in_eq, Option.bind_some, drop_end, List.all_nil, Bool.true_and]
      exact Ev.now _
    · intro i hi ih
      refine Ev.succ ?_
      simp only [spec_l05Ok.l0, if_pos (ilt hi), if_pos (i0 i), rd_T130, Int.toNat_natCast, sTest_eq, Option.bind_some, up1 i (by omega)]
      rw [drop_all l tstS i z130 hi]
      by_cases e : tst (l.getD i z130).f1.toList = true
      · simp only [if_pos e, show tstS (l.getD i z130) = true from e, Bool.true_and]
        exact ih
      · simp only [if_neg e, show tstS (l.getD i z130) = false from by simpa [tstS] using e, Bool.false_and]
        exact Ev.now _
  exact loop 0 (by omega)
theorem implValidQ_ev (l : List S130) (hl : l.length ≤ 1048576) : Ev (fun k => impl_ValidQuery.f k l) (okQ l) := by
  have loop : ∀ i, i ≤ l.length → ∃ r : Int, Ev (fun k => slices_IndexFunc_Limpl_QueryStep_impl_QueryStep_at_impl_ValidQuery_1.l0 k l (l.length : Int) i) r ∧ ((l.drop i).all tstS = !(decide (r ≥ 0))) := by
    refine down l.length ?_ ?_
    · refine ⟨-1, Ev.succ ?_, by rw [drop_end]; rfl⟩
      simp only [slices_IndexFunc_Limpl_QueryStep_impl_QueryStep_at_impl_ValidQuery_1.l0, if_neg inlt]
      exact Ev.now _
    · intro i hi ih
      obtain ⟨r, hr, he⟩ := ih
      by_cases e : tst (l.getD i z130).f1.toList = true
      · refine ⟨r, Ev.succ ?_, ?_⟩
        · simp only [slices_IndexFunc_Limpl_QueryStep_impl_QueryStep_at_impl_ValidQuery_1.l0, if_pos (ilt hi), if_pos (i0 i), rd_T130, Int.toNat_natCast, impl_ValidQuery_1.f, iTest_eq, Option.bind_some, e, Bool.not_true, Bool.false_eq_true, if_false, up1 i (by omega)]
          exact hr
        · rw [drop_all l tstS i z130 hi, show tstS (l.getD i z130) = true from e, Bool.true_and, he]
      · have e' : tst (l.getD i z130).f1.toList = false := by simpa using e
        refine ⟨(i : Int), Ev.succ ?_, ?_⟩
        · simp only [slices_IndexFunc_Limpl_QueryStep_impl_QueryStep_at_impl_ValidQuery_1.l0, if_pos (ilt hi), if_pos (i0 i), rd_T130, Int.toNat_natCast, impl_ValidQuery_1.f, iTest_eq, Option.bind_some, e', Bool.not_false, if_true]
          exact Ev.now _
        · rw [drop_all l tstS i z130 hi, show tstS (l.getD i z130) = false from e', Bool.false_and]
          simp
  obtain ⟨r, hr, he⟩ := loop 0 (by omega)
  unfold impl_ValidQuery.f impl_size_impl_QueryStep.f okQ
  simp only [Option.bind_some, within_eq]
  by_cases h : 1 ≤ (l.length : Int) ∧ (l.length : Int) ≤ 6
  · simp only [decide_eq_true h, if_true, Bool.and_true]
    rw [List.drop_zero] at he
    rw [he]
    unfold slices_ContainsFunc_Limpl_QueryStep_impl_QueryStep_at_impl_ValidQuery_1.f slices_IndexFunc_Limpl_QueryStep_impl_QueryStep_at_impl_ValidQuery_1.f
    exact Ev.bind (Ev.bind hr (Ev.now _)) (Ev.now _)
  · simp only [decide_eq_false h, Bool.false_eq_true, if_false, Bool.and_false]
    exact Ev.now _
end Go.Proofs.Ytcaijfndmkdboaa.Br
namespace Go.Proofs.Ytcaijfndmkdboaa.Br
open Go.RowKit Go.Proofs.Ytcaijfndmkdboaa.K Go.Proofs.YtcaijfndmkdboaaW.PrintWords Go.Proofs.YtcaijfndmkdboaaW.PrintLast Go.Proofs.YtcaijfndmkdboaaW.PrintMore Go.Proofs.Ytcaijfndmkdboaa.Th
set_option linter.unusedVariables false
set_option linter.unusedSimpArgs false
theorem par_range (b : Int → Int) (n i : Nat) (hi : i < n) : -1 ≤ g (st b n).q i ∧ g (st b n).q i < i := by
  obtain ⟨d, rfl⟩ : ∃ d, n = i + 1 + d := ⟨n - (i + 1), by omega⟩
  rw [q_stable b i d, step_q b i, g_append_end (basic b i).lq.symm]
  by_cases h : opn b i = []
  · rw [top_nil h]; omega
  · have := opn_lt b i _ (top_mem h); omega
/-- Is t met on the way up from x? -/
def hits (P : List Int) (t : Int) : Nat → Int → Bool
  | 0, _ => false
  | f + 1, x => if x ≥ 0 then (if x = t then true else hits P t f (rd P x)) else false
/-- Can a place be the node of a step, behind the node of the step before it? -/
def fol (P : List Int) (a : ByteArray) (s : S130) (j : Nat) (before i : Int) : Bool :=
  (!isR (bt a i) && pss s.f1.toList (bt a i)) && (if j = 0 then (s.f0 || decide (rd P i < 0)) else if s.f0 = true then hits P before a.size (rd P i) else rd P i == before)

theorem follows_up (P : List Int) (t : Int) (ht : 0 ≤ t) (hP : ∀ i : Nat, i < P.length → -1 ≤ rd P i ∧ rd P i < i) (r c p d : List Int) (b2 : ByteArray) :
    ∀ f : Nat, ∀ x : Int, x < (f : Int) → x < P.length → -1 ≤ x → Ev (fun k => impl_Query_follows.l0 k t x p r c d P true b2) (hits P t f x) := by
  intro f
  induction f with
  | zero =>
    intro x h0 _ h1
    obtain rfl : x = -1 := by omega
    refine Ev.succ ?_
    simp only [impl_Query_follows.l0, if_true, hits]
    simp only [if_neg (show ¬ (-1 : Int) ≥ 0 by decide), show ((-1 : Int) == t) = false from beq_eq_false_iff_ne.2 (by omega)]
    exact Ev.now _
  | succ f ih =>
    intro x h0 h2 h1
    refine Ev.succ ?_
    simp only [impl_Query_follows.l0, if_true, hits]
    by_cases hx : x ≥ 0
    · obtain ⟨m, rfl⟩ := Int.eq_ofNat_of_zero_le hx
      simp only [if_pos hx]
      by_cases e : (m : Int) = t
      · simp only [if_pos e, beq_iff_eq.2 e]
        exact Ev.now _
      · have := hP m (by omega)
        simp only [if_neg e, if_pos h2]
        exact ih _ (by omega) (by omega) (by omega)
    · simp only [if_neg hx]
      rw [show (x == t) = false from beq_eq_false_iff_ne.2 (by omega)]
      exact Ev.now _
theorem implFollows_ev (l : List S130) (a : ByteArray) (P r c p d : List Int) (hP : ∀ i : Nat, i < P.length → -1 ≤ rd P i ∧ rd P i < i) (hl : P.length = a.size) (j i : Nat) (t : Int) (hj : j < l.length) (hi : i < a.size) (ht : j ≠ 0 → 0 ≤ t)
    (hs : tst (l.getD j z130).f1.toList = true) : Ev (fun k => impl_Query_follows.f k l p r c d P a j t i) (fol P a (l.getD j z130) j t i) := by
  unfold impl_Query_follows.f impl_isNode.f fol
  have hp := hP i (by omega)
  have hb := bt_range a i
  simp only [if_pos (i0 j), if_pos (ilt hj), if_pos (i0 i), if_pos (ilt hi), isReturn_eq, Option.bind_some, rd_T130, Int.toNat_natCast, iPasses_eq _ (tst_size hs)]
  generalize l.getD j z130 = s at *
  have no : Ev (fun k => impl_Query_follows.j0 k j t i true p r c d P s.f0 s.f1) false := by
    refine Ev.succ ?_
    simp only [impl_Query_follows.j0, if_true]
    exact Ev.now _
  cases isR (bt a i)
  · simp only [Bool.not_false, if_true, Bool.true_and]
    cases pss s.f1.toList (bt a i)
    · simp only [Bool.not_false, Bool.false_and]
      exact no
    · simp only [Bool.not_true, Bool.true_and]
      refine Ev.succ ?_
      simp only [impl_Query_follows.j0, Bool.false_eq_true, if_false]
      by_cases h0 : j = 0
      · subst h0
        simp only [Int.natCast_zero, if_true, if_pos (i0 i), if_pos (show (i : Int) < (P.length : Int) by omega)]
        cases s.f0
        · simp only [Bool.false_eq_true, if_false, Bool.false_or]
          exact Ev.now _
        · simp only [if_true, Bool.true_or]
          exact Ev.now _
      · simp only [if_neg (show ¬ (j : Int) = 0 by omega), if_neg h0, if_pos (i0 i), if_pos (show (i : Int) < (P.length : Int) by omega)]
        cases hf : s.f0
        · simp only [Bool.false_eq_true, if_false]
          refine Ev.succ ?_
          simp only [impl_Query_follows.l0, Bool.false_eq_true, if_false]
          exact Ev.now _
        · simp only [if_true]
          exact follows_up P t (ht h0) hP r c p d s.f1 a.size _ (by omega) (by omega) (by omega)
  · simp only [Bool.not_true, Bool.false_eq_true, if_false, Bool.false_and]
    exact no

theorem shows_up (a : ByteArray) (path P : List Int) (l : List S130) (hP : ∀ i : Nat, i < P.length → -1 ≤ rd P i ∧ rd P i < i) (j : Nat) (hj : j < l.length) (hj2 : j < path.length) (h0 : j ≠ 0) (hl : l.length ≤ 1048576) (hd : (l.getD j z130).f0 = true) (R : Bool)
    (hR : Ev (fun k => spec_l05Shows.l0 k a path P ((j + 1 : Nat) : Int) l) R) :
    ∀ f : Nat, ∀ x : Int, x < (f : Int) → x < P.length → -1 ≤ x → Ev (fun k => spec_l05Shows.l1 k a path P j false x l) (hits P (rd path ((j : Int) - 1)) f x && R) := by
  have f1 : wrap64 ((j : Int) - 1) = (j : Int) - 1 := w64 (by omega) (by omega)
  have no : ∀ x, x < 0 → Ev (fun k => spec_l05Shows.l1 k a path P j false x l) false := by
    intro x hx
    refine Ev.succ ?_
    simp only [spec_l05Shows.l1, if_neg (show ¬ x ≥ 0 by omega)]
    refine Ev.succ ?_
    simp only [spec_l05Shows.j3, Bool.false_eq_true, if_false]
    exact Ev.now _
  have yes : ∀ x, Ev (fun k => spec_l05Shows.l1 k a path P j true x l) R := by
    intro x
    refine Ev.succ ?_
    simp only [spec_l05Shows.l1, Bool.not_true, ite_self]
    refine Ev.succ ?_
    simp only [spec_l05Shows.j3, Bool.false_eq_true, if_false, if_true, up1 j (by omega)]
    exact hR
  intro f
  induction f with
  | zero =>
    intro x h0 _ h1
    simp only [hits, Bool.false_and]
    exact no x (by omega)
  | succ f ih =>
    intro x h3 h2 h1
    by_cases hx : x ≥ 0
    · obtain ⟨m, rfl⟩ := Int.eq_ofNat_of_zero_le hx
      refine Ev.succ ?_
      simp only [spec_l05Shows.l1, if_pos hx, hits]
      refine Ev.succ ?_
      simp only [spec_l05Shows.j3, Bool.not_false, if_true, f1, if_pos (show 0 ≤ (j : Int) - 1 by omega), if_pos (show (j : Int) - 1 < (path.length : Int) by omega), if_pos (i0 j), if_pos (ilt hj), rd_T130, Int.toNat_natCast, hd, if_pos (i0 m), if_pos h2]
      have := hP m (by omega)
      by_cases e : (m : Int) = rd path ((j : Int) - 1)
      · simp only [if_pos e, beq_iff_eq.2 e, Bool.true_and]
        exact yes _
      · simp only [if_neg e, beq_eq_false_iff_ne.2 e]
        exact ih _ (by omega) (by omega) (by omega)
    · simp only [hits, if_neg hx, Bool.false_and]
      exact no x (by omega)
def stp (P : List Int) (a : ByteArray) (l : List S130) (path : List Int) (j : Nat) : Bool := fol P a (l.getD j z130) j (rd path ((j : Int) - 1)) (rd path j)
theorem specShows_ev (l : List S130) (a : ByteArray) (path : List Int) (hn : a.size ≤ 1048576) (hl : l.length ≤ 1048576) (hq : l.all tstS = true) (hr : ∀ j : Nat, j < path.length → 0 ≤ rd path j ∧ rd path j < a.size) :
    Ev (fun k => spec_l05Shows.f k l a path) (decide (path.length = l.length) && allN path.length (stp (st (bt a) a.size).q a l path)) := by
  unfold spec_l05Shows.f
  refine lenEv fun e => ?_
  refine Ev.bind (parents_ev a hn) ?_
  have hP : ∀ i : Nat, i < (st (bt a) a.size).q.length → -1 ≤ rd (st (bt a) a.size).q i ∧ rd (st (bt a) a.size).q i < i := by
    intro i hi
    rw [g_rd]
    exact par_range (bt a) a.size i (by rw [(basic (bt a) a.size).lq] at hi; exact hi)
  have lq := (basic (bt a) a.size).lq
  generalize (st (bt a) a.size).q = P at *
  refine allLoop path.length (fun j k => spec_l05Shows.l0 k a path P j l) _ ?_ ?_
  · refine Ev.succ ?_
    simp only [spec_l05Shows.l0, if_neg inlt]
    exact Ev.now _
  · intro j hj R hR
    have hjl : j < l.length := by omega
    have hs : tst (l.getD j z130).f1.toList = true := List.all_eq_true.1 hq _ (getD_mem l j _ hjl)
    obtain ⟨r0, r1⟩ := hr j hj
    have hb := bt_range a (rd path j)
    obtain ⟨i, hi⟩ := Int.eq_ofNat_of_zero_le r0
    have hp := hP i (by omega)
    refine Ev.succ ?_
    simp only [spec_l05Shows.l0, if_pos (ilt hj), if_pos (i0 j), if_pos r0, if_pos r1, spec_l05Node.f, sReturn_eq, Option.bind_some, if_pos (ilt hjl), rd_T130, Int.toNat_natCast, sPasses_eq _ (tst_size hs) _ hb.1 hb.2]
    unfold stp fol
    have no : Ev (fun k => spec_l05Shows.j1 k a path P j (rd path j) true l) false := by
      refine Ev.succ ?_
      simp only [spec_l05Shows.j1, if_true]
      exact Ev.now _
    cases isR (bt a (rd path j))
    · simp only [Bool.not_false, if_true, Bool.true_and]
      cases pss (l.getD j z130).f1.toList (bt a (rd path j))
      · simp only [Bool.not_false, Bool.false_and]
        exact no
      · simp only [Bool.not_true, Bool.true_and]
        refine Ev.succ ?_
        simp only [spec_l05Shows.j1, Bool.false_eq_true, if_false, up1 j (by omega)]
        by_cases h0 : j = 0
        · subst h0
          simp only [Int.natCast_zero, if_true, if_pos (show (0 : Int) < (l.length : Int) by omega), rd_T130, Int.toNat_zero]
          have hr0 : (0 ≤ rd path 0) = True := eq_true (by simpa using r0)
          have hr1 : (rd path 0 < (P.length : Int)) = True := eq_true (by simp at r1; omega)
          cases (l.getD 0 z130).f0
          · simp only [Bool.false_eq_true, if_false, Bool.false_or, hr0, hr1, if_true]
            by_cases hg : rd P (rd path 0) ≥ 0
            · simp only [if_pos hg, decide_eq_false (show ¬ rd P (rd path 0) < 0 by omega), Bool.false_and]
              exact Ev.now _
            · simp only [if_neg hg, decide_eq_true (show rd P (rd path 0) < 0 by omega), Bool.true_and]
              exact hR
          · simp only [if_true, Bool.true_or, Bool.true_and]
            exact hR
        · simp only [if_neg (show ¬ (j : Int) = 0 by omega), if_neg h0, if_pos r0, if_pos (show rd path j < (P.length : Int) by omega)]
          have hpp : -1 ≤ rd P (rd path j) ∧ rd P (rd path j) < i := by rw [hi]; exact hp
          by_cases hd : (l.getD j z130).f0 = true
          · simp only [if_pos hd]
            exact shows_up a path P l hP j hjl hj h0 hl hd R hR a.size _ (by omega) (by omega) (by omega)
          · simp only [if_neg hd]
            have f1 : wrap64 ((j : Int) - 1) = (j : Int) - 1 := w64 (by omega) (by omega)
            obtain ⟨q0, q1⟩ := hr (j - 1) (by omega)
            have hc : ((j - 1 : Nat) : Int) = (j : Int) - 1 := by omega
            rw [hc] at q0 q1
            refine Ev.succ ?_
            simp only [spec_l05Shows.l1]
            by_cases hg : rd P (rd path j) ≥ 0
            · simp only [if_pos hg, Bool.not_false]
              refine Ev.succ ?_
              simp only [spec_l05Shows.j3, if_true, f1, if_pos (show 0 ≤ (j : Int) - 1 by omega), if_pos (show (j : Int) - 1 < (path.length : Int) by omega), if_pos (i0 j), if_pos (ilt hjl), rd_T130, Int.toNat_natCast, if_neg hd, up1 j (by omega)]
              exact eqEv hR
            · simp only [if_neg hg]
              rw [show (rd P (rd path j) == rd path ((j : Int) - 1)) = false from beq_eq_false_iff_ne.2 (by omega), Bool.false_and]
              refine Ev.succ ?_
              simp only [spec_l05Shows.j3, Bool.false_eq_true, if_false]
              exact Ev.now _
    · simp only [Bool.not_true, Bool.false_eq_true, if_false, Bool.false_and]
      exact no

def inW (a : ByteArray) (x : Int) : Bool := decide (0 ≤ x ∧ x ≤ (a.size : Int) - 1)
theorem inW_all {a : ByteArray} {path : List Int} (h : path.all (inW a) = true) (j : Nat) (hj : j < path.length) : 0 ≤ rd path j ∧ rd path j < a.size := by
  have := List.all_eq_true.1 h _ (getD_mem path j 0 hj)
  have e : rd path j = path.getD j 0 := by unfold rd; rw [Int.toNat_natCast]
  rw [e]
  simp only [inW, decide_eq_true_eq] at this
  omega
/-- What CheckPath tells. -/
def checkR (l : List S130) (a : ByteArray) (path : List Int) : Bool × Int :=
  if okQ l = true ∧ okw a = true then (if path.all (inW a) = true then (decide (path.length = l.length) && allN path.length (stp (st (bt a) a.size).q a l path), 0) else (false, 2)) else (false, 1)
theorem specCheck_ev (l : List S130) (a : ByteArray) (path : List Int) (hn : a.size ≤ 1048576) (hl : l.length ≤ 1048576) (hp : path.length ≤ 1048576) : Ev (fun k => spec_CheckPath.f k l a path) (checkR l a path) := by
  unfold spec_CheckPath.f spec_l05Given.f checkR
  have f1 : wrap64 ((a.size : Int) - 1) = (a.size : Int) - 1 := w64 (by omega) (by omega)
  by_cases h1 : okQ l = true
  · by_cases h2 : okw a = true
    · rw [if_pos ⟨h1, h2⟩]
      refine Ev.bind (a := 0) (Ev.bind (specOkQ_ev l hl) ?_) ?_
      · simp only [h1, if_true]
        refine Ev.bind (specOk_ev a hn) ?_
        simp only [h2, if_true]
        exact Ev.now _
      simp only [if_true]
      have hq : l.all tstS = true := by unfold okQ at h1; simp only [Bool.and_eq_true] at h1; exact h1.1
      have loop : ∀ i, i ≤ path.length → (∀ j : Nat, j < i → inW a (path.getD j 0) = true) → Ev (fun k => spec_CheckPath.l0 k a path i l) (if (path.drop i).all (inW a) = true then (decide (path.length = l.length) && allN path.length (stp (st (bt a) a.size).q a l path), 0) else (false, 2)) := by
        refine down path.length ?_ ?_
        · intro hall
          refine Ev.succ ?_
          simp only [spec_CheckPath.l0, if_neg inlt, drop_end, List.all_nil, if_true]
          refine Ev.bind (specShows_ev l a path hn hl hq fun j hj => ?_) (Ev.now _)
          have := hall j hj
          have e : rd path j = path.getD j 0 := by unfold rd; rw [Int.toNat_natCast]
          rw [e]
          simp only [inW, decide_eq_true_eq] at this
          omega
        · intro i hi ih hall
          refine Ev.succ ?_
          have e : rd path i = path.getD i 0 := by unfold rd; rw [Int.toNat_natCast]
          simp only [spec_CheckPath.l0, if_pos (ilt hi), if_pos (i0 i), in_eq, Option.bind_some, f1, up1 i (by omega)]
          rw [drop_all path (inW a) i 0 hi, e]
          by_cases hw : inW a (path.getD i 0) = true
          · simp only [hw, Bool.true_and, if_pos (show decide (0 ≤ path.getD i 0 ∧ path.getD i 0 ≤ (a.size : Int) - 1) = true from hw)]
            refine ih fun j hj => ?_
            by_cases hji : j = i
            · rw [hji]; exact hw
            · exact hall j (by omega)
          · simp only [if_neg (show ¬ decide (0 ≤ path.getD i 0 ∧ path.getD i 0 ≤ (a.size : Int) - 1) = true from hw), show inW a (path.getD i 0) = false from by simpa using hw, Bool.false_and, Bool.false_eq_true, if_false]
            exact Ev.now _
      exact loop 0 (by omega) (fun j hj => absurd hj (by omega))
    · rw [if_neg (fun h => h2 h.2)]
      refine Ev.bind (a := 1) (Ev.bind (specOkQ_ev l hl) ?_) ?_
      · simp only [h1, if_true]
        refine Ev.bind (specOk_ev a hn) ?_
        simp only [h2, if_false]
        exact Ev.now _
      · simp only [show ¬ (1 : Int) = 0 by decide, if_false]
        exact Ev.now _
  · rw [if_neg (fun h => h1 h.1)]
    refine Ev.bind (a := 1) (Ev.bind (specOkQ_ev l hl) ?_) ?_
    · simp only [h1, if_false]
      exact Ev.now _
    · simp only [show ¬ (1 : Int) = 0 by decide, if_false]
      exact Ev.now _
theorem implIn_ev (a : ByteArray) (path : List Int) (hn : a.size ≤ 1048576) (hp : path.length ≤ 1048576) : Ev (fun k => slices_ContainsFunc_Lint64_int64_at_impl_CheckPath_1.f k path a) (!(path.all (inW a))) := by
  have f1 : wrap64 ((a.size : Int) - 1) = (a.size : Int) - 1 := w64 (by omega) (by omega)
  have loop : ∀ i, i ≤ path.length → ∃ r : Int, Ev (fun k => slices_IndexFunc_Lint64_int64_at_impl_CheckPath_1.l0 k path (path.length : Int) i a) r ∧ ((path.drop i).all (inW a) = !(decide (r ≥ 0))) := by
    refine down path.length ?_ ?_
    · refine ⟨-1, Ev.succ ?_, by rw [drop_end]; rfl⟩
      simp only [slices_IndexFunc_Lint64_int64_at_impl_CheckPath_1.l0, if_neg inlt]
      exact Ev.now _
    · intro i hi ih
      obtain ⟨r, hr, he⟩ := ih
      have ed : rd path i = path.getD i 0 := by unfold rd; rw [Int.toNat_natCast]
      by_cases e : inW a (path.getD i 0) = true
      · refine ⟨r, Ev.succ ?_, ?_⟩
        · simp only [slices_IndexFunc_Lint64_int64_at_impl_CheckPath_1.l0, if_pos (ilt hi), if_pos (i0 i), impl_CheckPath_1_c.f, within_eq, Option.bind_some, f1, ed, show decide (0 ≤ path.getD i 0 ∧ path.getD i 0 ≤ (a.size : Int) - 1) = true from e, Bool.not_true, Bool.false_eq_true, if_false, up1 i (by omega)]
          exact hr
        · rw [drop_all path (inW a) i 0 hi, e, Bool.true_and, he]
      · have e' : inW a (path.getD i 0) = false := by simpa using e
        refine ⟨(i : Int), Ev.succ ?_, ?_⟩
        · simp only [slices_IndexFunc_Lint64_int64_at_impl_CheckPath_1.l0, if_pos (ilt hi), if_pos (i0 i), impl_CheckPath_1_c.f, within_eq, Option.bind_some, f1, ed, show decide (0 ≤ path.getD i 0 ∧ path.getD i 0 ≤ (a.size : Int) - 1) = false from e', Bool.not_false, if_true]
          exact Ev.now _
        · rw [drop_all path (inW a) i 0 hi, e', Bool.false_and]
          simp
  obtain ⟨r, hr, he⟩ := loop 0 (by omega)
  rw [List.drop_zero] at he
  rw [he, Bool.not_not]
  unfold slices_ContainsFunc_Lint64_int64_at_impl_CheckPath_1.f slices_IndexFunc_Lint64_int64_at_impl_CheckPath_1.f
  exact Ev.bind hr (Ev.now _)
theorem implCheck_ev (l : List S130) (a : ByteArray) (path : List Int) (hn : a.size ≤ 1048576) (hl : l.length ≤ 1048576) (hp : path.length ≤ 1048576) : Ev (fun k => impl_CheckPath.f k l a path) (checkR l a path) := by
  unfold impl_CheckPath.f checkR
  have no : Ev (fun k => impl_CheckPath.j0 k path true l a) (false, 1) := by
    refine Ev.succ ?_
    simp only [impl_CheckPath.j0, if_true]
    exact Ev.now _
  by_cases h1 : okQ l = true
  · by_cases h2 : okw a = true
    · rw [if_pos ⟨h1, h2⟩]
      have hq : l.all tstS = true := by unfold okQ at h1; simp only [Bool.and_eq_true] at h1; exact h1.1
      refine Ev.bind (implValidQ_ev l hl) ?_
      simp only [h1, if_true]
      refine Ev.bind (valid_ev a hn) ?_
      simp only [h2, Bool.not_true]
      refine Ev.succ ?_
      simp only [impl_CheckPath.j0, Bool.false_eq_true, if_false]
      refine Ev.bind (implIn_ev a path hn hp) ?_
      cases h3 : path.all (inW a)
      · simp only [Bool.not_false, if_true, Bool.false_eq_true, if_false]
        exact Ev.now _
      · simp only [Bool.not_true, Bool.false_eq_true, if_false, if_true]
        by_cases h4 : path.length = l.length
        · simp only [if_pos (show (path.length : Int) = (l.length : Int) by omega), decide_eq_true h4, Bool.true_and]
          refine Ev.bind (match_ev a hn) ?_
          have hP : ∀ i : Nat, i < (st (bt a) a.size).q.length → -1 ≤ rd (st (bt a) a.size).q i ∧ rd (st (bt a) a.size).q i < i := by
            intro i hi
            rw [g_rd]
            exact par_range (bt a) a.size i (by rw [(basic (bt a) a.size).lq] at hi; exact hi)
          have lq := (basic (bt a) a.size).lq
          simp only []
          generalize (st (bt a) a.size).q = P at *
          generalize (st (bt a) a.size).p = p at *
          generalize (st (bt a) a.size).r = r at *
          generalize (st (bt a) a.size).c = c at *
          generalize (st (bt a) a.size).d = d at *
          rw [← allFromN_zero]
          have loop : ∀ j, j ≤ path.length → ∀ t : Int, (j ≠ 0 → t = rd path ((j : Int) - 1)) → Ev (fun k => impl_CheckPath.l0 k t path (path.length : Int) j l a p r c d P) (allFromN path.length (stp P a l path) j, 0) := by
            refine down path.length ?_ ?_
            · intro t _
              refine Ev.succ ?_
              rw [allFromN_end]
              simp only [impl_CheckPath.l0, if_neg inlt]
              exact Ev.now _
            · intro j hj ih t ht
              have hjl : j < l.length := by omega
              have hs : tst (l.getD j z130).f1.toList = true := List.all_eq_true.1 hq _ (getD_mem l j _ hjl)
              obtain ⟨r0, r1⟩ := inW_all h3 j hj
              obtain ⟨i, hi⟩ := Int.eq_ofNat_of_zero_le r0
              have ht0 : j ≠ 0 → 0 ≤ t := by
                intro h0
                rw [ht h0]
                have := (inW_all h3 (j - 1) (by omega)).1
                rwa [show ((j - 1 : Nat) : Int) = (j : Int) - 1 by omega] at this
              have hf := implFollows_ev l a P r c p d hP lq j i t hjl (by omega) ht0 hs
              rw [← hi] at hf
              have e : fol P a (l.getD j z130) j t (rd path j) = stp P a l path j := by
                unfold stp
                by_cases h0 : j = 0
                · unfold fol; simp only [if_pos h0]
                · rw [ht h0]
              rw [e] at hf
              refine Ev.succ ?_
              simp only [impl_CheckPath.l0, if_pos (ilt hj), if_pos (i0 j), up1 j (by omega)]
              refine Ev.bind hf ?_
              rw [allFromN_step _ _ j hj]
              have nx := ih (rd path j) (fun _ => by rw [show ((j + 1 : Nat) : Int) - 1 = (j : Int) by omega])
              cases stp P a l path j
              · simp only [Bool.false_eq_true, if_false, Bool.false_and]
                exact Ev.now _
              · simp only [if_true, Bool.true_and]
                exact nx
          exact loop 0 (by omega) (-1) (fun h => absurd rfl h)
        · simp only [if_neg (show ¬ (path.length : Int) = (l.length : Int) by omega), decide_eq_false h4, Bool.false_and]
          exact Ev.now _
    · rw [if_neg (fun h => h2 h.2)]
      refine Ev.bind (implValidQ_ev l hl) ?_
      simp only [h1, if_true]
      refine Ev.bind (valid_ev a hn) ?_
      simp only [h2, Bool.not_false]
      exact no
  · rw [if_neg (fun h => h1 h.1)]
    refine Ev.bind (implValidQ_ev l hl) ?_
    simp only [h1, if_false]
    exact no
end Go.Proofs.Ytcaijfndmkdboaa.Br
namespace Go.Proofs.Ytcaijfndmkdboaa.Br
open Go.RowKit Go.Proofs.Ytcaijfndmkdboaa.K Go.Proofs.YtcaijfndmkdboaaW.PrintWords Go.Proofs.YtcaijfndmkdboaaW.PrintLast Go.Proofs.YtcaijfndmkdboaaW.PrintMore Go.Proofs.Ytcaijfndmkdboaa.Th
set_option linter.unusedVariables false
set_option linter.unusedSimpArgs false
/-- How long a row is, and those inside. -/
def sm0 {α : Type} (l : List α) : Prop := l.length ≤ 1048576
end Go.Proofs.Ytcaijfndmkdboaa.Br
namespace Go.Proofs.Ytcaijfndmkdboaa.Br
open Go.RowKit Go.Proofs.Ytcaijfndmkdboaa.K Go.Proofs.YtcaijfndmkdboaaW.PrintWords Go.Proofs.YtcaijfndmkdboaaW.PrintLast Go.Proofs.YtcaijfndmkdboaaW.PrintMore Go.Proofs.Ytcaijfndmkdboaa.Th
set_option linter.unusedVariables false
set_option linter.unusedSimpArgs false
theorem laws_toInt64S_ev (l : List Int) (hl : sm0 l) : Ev (fun k => laws_toInt64S.f k l) l := by
  have hl' : l.length ≤ 1048576 := hl
  unfold laws_toInt64S.f
  simp only [if_pos (i0 l.length), Int.toNat_natCast, if_pos (show l.length ≤ 35184372088832 by omega)]
  refine toLoop l.length (fun i o k => laws_toInt64S.l0 k l o i) l 0 rfl ?_ ?_ _ (by simp)
  · intro o
    refine Ev.succ ?_
    simp only [laws_toInt64S.l0, if_neg inlt]
    exact Ev.now _
  · intro i o hi ho h
    refine Ev.succ ?_
    simp only [laws_toInt64S.l0, if_pos (ilt hi), if_pos (i0 i), if_pos (ilt (show i < o.length by omega)), up1 i (by omega), Int.toNat_natCast]
    exact h
end Go.Proofs.Ytcaijfndmkdboaa.Br
namespace Go.Proofs.Ytcaijfndmkdboaa.Br
open Go.RowKit Go.Proofs.Ytcaijfndmkdboaa.K Go.Proofs.YtcaijfndmkdboaaW.PrintWords Go.Proofs.YtcaijfndmkdboaaW.PrintLast Go.Proofs.YtcaijfndmkdboaaW.PrintMore Go.Proofs.Ytcaijfndmkdboaa.Th
set_option linter.unusedVariables false
set_option linter.unusedSimpArgs false
/-- n numbers from a on. -/
def up (a : Int) : Nat → List Int
  | 0 => []
  | n + 1 => up a n ++ [a + n]
theorem eqInts_loop (l : List Int) (hl : l.length ≤ 4194304) : ∀ d i : Nat, i + d = l.length → Ev (fun k => laws_eqInt64S.l0 k l l i) true := by
  intro d
  induction d with
  | zero =>
    intro i hi
    refine Ev.succ ?_
    simp only [laws_eqInt64S.l0, if_neg (show ¬ (i : Int) < (l.length : Int) by omega)]
    exact Ev.now _
  | succ d ih =>
    intro i hi
    have hnext := ih (i + 1) (by omega)
    have b1 : (i : Int) < (l.length : Int) := by omega
    have b2 : (0 : Int) ≤ (i : Int) := by omega
    have f3 : wrap64 ((i : Int) + 1) = (i : Int) + 1 := w64 (by omega) (by omega)
    refine Ev.succ ?_
    simp only [laws_eqInt64S.l0, if_pos b1, if_pos b2, f3, if_true]
    exact hnext
theorem eqInts_ev (l : List Int) (hl : l.length ≤ 4194304) : Ev (fun k => laws_eqInt64S.f k l l) true := by
  unfold laws_eqInt64S.f
  simp only [if_true]
  exact eqInts_loop l hl l.length 0 (Nat.zero_add _)

end Go.Proofs.Ytcaijfndmkdboaa.Br
