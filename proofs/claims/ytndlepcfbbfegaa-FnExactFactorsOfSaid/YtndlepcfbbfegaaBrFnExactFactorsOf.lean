/- What the law FnExactFactorsOf leans on: plain facts, and what the printed functions that it reaches come to; for all arguments that the facts name. -/
import Derived.Test.YtndlepcfbbfegaaPx30
import Derived.Test.YtndlepcfbbfegaaPx31
import Derived.Test.YtndlepcfbbfegaaPx32
import Derived.Test.YtndlepcfbbfegaaPx33
import Derived.Test.YtndlepcfbbfegaaPx34
import Derived.Test.YtndlepcfbbfegaaPx66
import Derived.Test.YtndlepcfbbfegaaPx67
import Derived.Test.YtndlepcfbbfegaaPx70
import Derived.Test.YtndlepcfbbfegaaPx71
import Derived.Test.YtndlepcfbbfegaaPx72
import Derived.Test.YtndlepcfbbfegaaPx89
import Derived.Test.YtndlepcfbbfegaaPx90
import Derived.Test.YtndlepcfbbfegaaPx91
import Derived.Test.YtndlepcfbbfegaaPx92
import Derived.Test.YtndlepcfbbfegaaPx93
import Derived.Test.YtndlepcfbbfegaaPx153
import Derived.Test.YtndlepcfbbfegaaPx154
import Derived.Test.YtndlepcfbbfegaaPx155
import Derived.Test.YtndlepcfbbfegaaPx156
import Derived.Test.YtndlepcfbbfegaaPx159
import Derived.Test.YtndlepcfbbfegaaPx160
import Derived.Test.YtndlepcfbbfegaaPx161
namespace Go.Proofs.Ytndlepcfbbfegaa.Th

def isC (b : Int) : Bool := b == 40 || b == 91
def isR (b : Int) : Bool := b == 41 || b == 93

structure St where
  p : List Int
  r : List Int
  c : List Int
  d : List Int
  q : List Int

def top (c : List Int) : Int := c.getLast?.getD (-1)

def step (s : St) (i b : Int) : St :=
  if isR b = true then
    if s.c = [] then ⟨s.p ++ [-2], s.r ++ [i], [], s.d ++ [0], s.q ++ [-1]⟩
    else ⟨s.p.set (top s.c).toNat i ++ [top s.c], s.r, s.c.dropLast, s.d ++ [(s.c.dropLast.length : Int)], s.q ++ [top s.c.dropLast]⟩
  else if isC b = true then ⟨s.p ++ [-2], s.r, s.c ++ [i], s.d ++ [(s.c.length : Int) + 1], s.q ++ [top s.c]⟩
  else ⟨s.p ++ [-1], s.r, s.c, s.d ++ [(s.c.length : Int)], s.q ++ [top s.c]⟩

def st (b : Int → Int) : Nat → St
  | 0 => ⟨[], [], [], [0], []⟩
  | n + 1 => step (st b n) n (b n)

theorem isR_notC {b : Int} (h : isR b = true) : isC b = false := by
  unfold isR at h; unfold isC
  simp at h ⊢
  omega

structure Basic (s : St) (n : Nat) : Prop where
  lp : s.p.length = n
  lq : s.q.length = n
  ld : s.d.length = n + 1
  lr : s.r.length ≤ n
  lc : s.c.length ≤ n
  hc : ∀ x ∈ s.c, 0 ≤ x ∧ x < n
  hr : ∀ x ∈ s.r, 0 ≤ x ∧ x < n

theorem top_mem {c : List Int} (h : c ≠ []) : top c ∈ c := by
  unfold top
  rw [List.getLast?_eq_some_getLast h]
  exact List.getLast_mem h

theorem basic (b : Int → Int) : ∀ n, Basic (st b n) n
  | 0 => by constructor <;> simp [st]
  | n + 1 => by
    have ih := basic b n
    obtain ⟨h1, h2, h3, h4, h5, h6, h7⟩ := ih
    unfold st step
    split
    · split
      · constructor <;> simp_all
        · intro x hx; rcases hx with hx | hx
          · have := h7 x hx; omega
          · omega
      · rename_i hne
        have hd : ∀ x ∈ (st b n).c.dropLast, x ∈ (st b n).c := fun x hx => List.dropLast_subset _ hx
        constructor
        · simp; exact h1
        · simp; exact h2
        · simp; exact h3
        · simp; omega
        · simp; omega
        · intro x hx; have := h6 x (hd x hx); constructor <;> omega
        · intro x hx; have := h7 x hx; constructor <;> omega
    · split
      · constructor
        · simp; exact h1
        · simp; exact h2
        · simp; exact h3
        · simp; omega
        · simp; omega
        · intro x hx
          rcases List.mem_append.1 hx with hx | hx
          · have := h6 x hx; constructor <;> omega
          · simp at hx; omega
        · intro x hx; have := h7 x hx; constructor <;> omega
      · constructor
        · simp; exact h1
        · simp; exact h2
        · simp; exact h3
        · simp; omega
        · simp; omega
        · intro x hx; have := h6 x hx; constructor <;> omega
        · intro x hx; have := h7 x hx; constructor <;> omega


def g (l : List Int) (j : Nat) : Int := l.getD j 0

theorem g_append_left {l m : List Int} {j : Nat} (h : j < l.length) : g (l ++ m) j = g l j := by
  unfold g; simp [List.getD_eq_getElem?_getD, List.getElem?_append_left h]
theorem g_append_end {l : List Int} {x : Int} {j : Nat} (h : j = l.length) : g (l ++ [x]) j = x := by
  subst h; unfold g; simp [List.getD_eq_getElem?_getD]
theorem g_set {l : List Int} {t j : Nat} {x : Int} : g (l.set t x) j = if t = j ∧ j < l.length then x else g l j := by
  unfold g
  simp only [List.getD_eq_getElem?_getD, List.getElem?_set]
  by_cases h : t = j
  · subst h
    by_cases h2 : t < l.length
    · simp [h2]
    · simp [h2]
  · simp [h]

structure Inv (b : Int → Int) (s : St) (n : Nat) : Prop where
  ba : Basic s n
  inc : (s.r ++ s.c).Pairwise (· < ·)
  m2 : ∀ j : Nat, j < n → (g s.p j = -2 ↔ (j : Int) ∈ s.r ∨ (j : Int) ∈ s.c)
  br : ∀ j : Nat, (j : Int) ∈ s.r → isR (b j) = true
  bc : ∀ j : Nat, (j : Int) ∈ s.c → isC (b j) = true
  m1 : ∀ j : Nat, j < n → (g s.p j = -1 ↔ isC (b j) = false ∧ isR (b j) = false)
  pos : ∀ j : Nat, j < n → 0 ≤ g s.p j → g s.p j < n ∧ g s.p (g s.p j).toNat = j ∧ ((isC (b j) = true ∧ (j : Int) < g s.p j) ∨ (isR (b j) = true ∧ g s.p j < j))
  lo : ∀ j : Nat, j < n → -2 ≤ g s.p j

theorem pw_mem {l : List Int} {x : Int} (h : (l ++ [x]).Pairwise (· < ·)) : ∀ y ∈ l, y < x := by
  intro y hy
  exact (List.pairwise_append.1 h).2.2 y hy x (by simp)

theorem dropLast_top {c : List Int} (h : c ≠ []) : c.dropLast ++ [top c] = c := by
  unfold top
  rw [List.getLast?_eq_some_getLast h]
  exact List.dropLast_concat_getLast h

theorem inv (b : Int → Int) : ∀ n, Inv b (st b n) n
  | 0 => by
    constructor <;> first | exact basic b 0 | simp [st]
  | n + 1 => by
    have ih := inv b n
    have hba := basic b (n + 1)
    have hst : st b (n + 1) = step (st b n) n (b n) := rfl
    obtain ⟨B, inc, m2, br, bc, m1, pos, lo⟩ := ih
    obtain ⟨lp, lq, ld, lr, lc, hc, hr⟩ := B
    generalize hs : st b n = s at *
    rw [hst] at hba ⊢
    by_cases hR : isR (b n) = true
    · have hC := isR_notC hR
      by_cases he : s.c = []
      · have e : step s n (b n) = ⟨s.p ++ [-2], s.r ++ [(n : Int)], [], s.d ++ [0], s.q ++ [-1]⟩ := by simp [step, hR, he]
        rw [e] at hba ⊢
        rw [he, List.append_nil] at inc
        have gl : ∀ j : Nat, j < n → g (s.p ++ [-2]) j = g s.p j := fun j hj => g_append_left (by omega)
        have gn : g (s.p ++ [-2]) n = -2 := g_append_end lp.symm
        refine ⟨hba, ?_, ?_, ?_, ?_, ?_, ?_, ?_⟩
        · simp only [List.append_nil]
          refine List.pairwise_append.2 ⟨inc, by simp, ?_⟩
          intro a ha x hx; simp at hx; subst hx; exact (hr a ha).2
        · intro j hj
          by_cases hjn : j = n
          · subst hjn; simp [gn]
          · have hj' : j < n := by omega
            rw [gl j hj', m2 j hj', he]
            simp; omega
        · intro j hj
          rcases List.mem_append.1 hj with h | h
          · exact br j h
          · simp at h; rw [show j = n by omega]; exact hR
        · intro j hj; simp at hj
        · intro j hj
          by_cases hjn : j = n
          · subst hjn; simp [gn, hR]
          · have hj' : j < n := by omega
            rw [gl j hj']; exact m1 j hj'
        · intro j hj h0
          by_cases hjn : j = n
          · subst hjn; rw [gn] at h0; omega
          · have hj' : j < n := by omega
            rw [gl j hj'] at h0 ⊢
            obtain ⟨p1, p2, p3⟩ := pos j hj' h0
            refine ⟨by omega, ?_, p3⟩
            rw [gl _ (by omega)]; exact p2
        · intro j hj
          by_cases hjn : j = n
          · subst hjn; rw [gn]; omega
          · have hj' : j < n := by omega
            rw [gl j hj']; exact lo j hj'
      · have e : step s n (b n) = ⟨s.p.set (top s.c).toNat n ++ [top s.c], s.r, s.c.dropLast, s.d ++ [(s.c.dropLast.length : Int)], s.q ++ [top s.c.dropLast]⟩ := by simp [step, hR, he]
        rw [e] at hba ⊢
        have ht := top_mem he
        obtain ⟨t0, t1⟩ := hc _ ht
        obtain ⟨t, htt⟩ := Int.eq_ofNat_of_zero_le t0
        have hdt := dropLast_top he
        have htn : t < n := by omega
        have ht2 : g s.p t = -2 := (m2 t htn).2 (Or.inr (htt ▸ ht))
        have htC : isC (b t) = true := bc t (htt ▸ ht)
        rw [htt] at hdt ⊢
        simp only [Int.toNat_natCast]
        have inc' : (s.r ++ s.c.dropLast ++ [(t : Int)]).Pairwise (· < ·) := by rw [List.append_assoc, hdt]; exact inc
        have hlt := pw_mem inc'
        have gn : g (s.p.set t n ++ [(t : Int)]) n = t := g_append_end (by simp [lp])
        have gl : ∀ j : Nat, j < n → g (s.p.set t n ++ [(t : Int)]) j = if t = j then (n : Int) else g s.p j := by
          intro j hj
          rw [g_append_left (by simp; omega), g_set]
          by_cases h : t = j
          · simp [h]; omega
          · simp [h]
        have hcm : ∀ j : Nat, (j : Int) ∈ s.c ↔ (j : Int) ∈ s.c.dropLast ∨ j = t := by
          intro j
          conv => lhs; rw [← hdt]
          rw [List.mem_append, List.mem_singleton, Int.ofNat_inj]
        refine ⟨by rw [htt] at hba; simpa using hba, ?_, ?_, ?_, ?_, ?_, ?_, ?_⟩
        · exact (List.pairwise_append.1 inc').1
        · intro j hj
          by_cases hjn : j = n
          · subst hjn
            rw [gn]
            constructor
            · intro h; omega
            · intro h
              rcases h with h | h
              · have := hr _ h; omega
              · have := hc _ ((hcm j).2 (Or.inl h)); omega
          · have hj' : j < n := by omega
            rw [gl j hj']
            by_cases hjt : t = j
            · subst hjt
              simp only [if_true]
              constructor
              · intro h; omega
              · intro h
                rcases h with h | h
                · have := hlt t (by simp [h]); omega
                · have := hlt t (by simp [h]); omega
            · rw [if_neg hjt, m2 j hj', hcm j]
              constructor
              · rintro (h | h | h)
                · exact Or.inl h
                · exact Or.inr h
                · omega
              · rintro (h | h)
                · exact Or.inl h
                · exact Or.inr (Or.inl h)
        · exact br
        · intro j hj; exact bc j ((hcm j).2 (Or.inl hj))
        · intro j hj
          by_cases hjn : j = n
          · subst hjn; rw [gn]; simp [hR]
          · have hj' : j < n := by omega
            rw [gl j hj']
            by_cases hjt : t = j
            · subst hjt; simp [htC]
            · rw [if_neg hjt]; exact m1 j hj'
        · intro j hj h0
          by_cases hjn : j = n
          · subst hjn
            rw [gn]
            refine ⟨by omega, ?_, Or.inr ⟨hR, by omega⟩⟩
            rw [Int.toNat_natCast, gl t htn, if_pos rfl]
          · have hj' : j < n := by omega
            rw [gl j hj'] at h0 ⊢
            by_cases hjt : t = j
            · subst hjt
              simp only [if_true]
              refine ⟨by omega, ?_, Or.inl ⟨htC, by omega⟩⟩
              rw [Int.toNat_natCast, gn]
            · rw [if_neg hjt] at h0 ⊢
              obtain ⟨p1, p2, p3⟩ := pos j hj' h0
              refine ⟨by omega, ?_, p3⟩
              rw [gl _ (by omega), if_neg]
              · exact p2
              · intro h; rw [← h, ht2] at p2; omega
        · intro j hj
          by_cases hjn : j = n
          · subst hjn; rw [gn]; omega
          · have hj' : j < n := by omega
            rw [gl j hj']
            split
            · omega
            · exact lo j hj'
    · have hR' : isR (b n) = false := by simpa using hR
      by_cases hC : isC (b n) = true
      · have e : step s n (b n) = ⟨s.p ++ [-2], s.r, s.c ++ [(n : Int)], s.d ++ [(s.c.length : Int) + 1], s.q ++ [top s.c]⟩ := by simp [step, hR, hC]
        rw [e] at hba ⊢
        have gl : ∀ j : Nat, j < n → g (s.p ++ [-2]) j = g s.p j := fun j hj => g_append_left (by omega)
        have gn : g (s.p ++ [-2]) n = -2 := g_append_end lp.symm
        refine ⟨hba, ?_, ?_, ?_, ?_, ?_, ?_, ?_⟩
        · rw [← List.append_assoc]
          refine List.pairwise_append.2 ⟨inc, by simp, ?_⟩
          intro a ha x hx; simp at hx; subst hx
          rcases List.mem_append.1 ha with h | h
          · exact (hr a h).2
          · exact (hc a h).2
        · intro j hj
          by_cases hjn : j = n
          · subst hjn; simp [gn]
          · have hj' : j < n := by omega
            rw [gl j hj', m2 j hj', List.mem_append, List.mem_singleton, Int.ofNat_inj]
            constructor
            · rintro (h | h)
              · exact Or.inl h
              · exact Or.inr (Or.inl h)
            · rintro (h | h | h)
              · exact Or.inl h
              · exact Or.inr h
              · omega
        · exact br
        · intro j hj
          rcases List.mem_append.1 hj with h | h
          · exact bc j h
          · simp at h; rw [show j = n by omega]; exact hC
        · intro j hj
          by_cases hjn : j = n
          · subst hjn; simp [gn, hC]
          · have hj' : j < n := by omega
            rw [gl j hj']; exact m1 j hj'
        · intro j hj h0
          by_cases hjn : j = n
          · subst hjn; rw [gn] at h0; omega
          · have hj' : j < n := by omega
            rw [gl j hj'] at h0 ⊢
            obtain ⟨p1, p2, p3⟩ := pos j hj' h0
            refine ⟨by omega, ?_, p3⟩
            rw [gl _ (by omega)]; exact p2
        · intro j hj
          by_cases hjn : j = n
          · subst hjn; rw [gn]; omega
          · have hj' : j < n := by omega
            rw [gl j hj']; exact lo j hj'
      · have hC' : isC (b n) = false := by simpa using hC
        have e : step s n (b n) = ⟨s.p ++ [-1], s.r, s.c, s.d ++ [(s.c.length : Int)], s.q ++ [top s.c]⟩ := by simp [step, hR, hC]
        rw [e] at hba ⊢
        have gl : ∀ j : Nat, j < n → g (s.p ++ [-1]) j = g s.p j := fun j hj => g_append_left (by omega)
        have gn : g (s.p ++ [-1]) n = -1 := g_append_end lp.symm
        refine ⟨hba, inc, ?_, br, bc, ?_, ?_, ?_⟩
        · intro j hj
          by_cases hjn : j = n
          · subst hjn; rw [gn]
            constructor
            · intro h; omega
            · rintro (h | h)
              · have := hr _ h; omega
              · have := hc _ h; omega
          · have hj' : j < n := by omega
            rw [gl j hj', m2 j hj']
        · intro j hj
          by_cases hjn : j = n
          · subst hjn; simp [gn, hC', hR']
          · have hj' : j < n := by omega
            rw [gl j hj']; exact m1 j hj'
        · intro j hj h0
          by_cases hjn : j = n
          · subst hjn; rw [gn] at h0; omega
          · have hj' : j < n := by omega
            rw [gl j hj'] at h0 ⊢
            obtain ⟨p1, p2, p3⟩ := pos j hj' h0
            refine ⟨by omega, ?_, p3⟩
            rw [gl _ (by omega)]; exact p2
        · intro j hj
          by_cases hjn : j = n
          · subst hjn; rw [gn]; omega
          · have hj' : j < n := by omega
            rw [gl j hj']; exact lo j hj'

/-- Two increasing lists with the same members. -/
theorem inc_ext : ∀ {l m : List Int}, l.Pairwise (· < ·) → m.Pairwise (· < ·) → (∀ x, x ∈ l ↔ x ∈ m) → l = m
  | [], [], _, _, _ => rfl
  | [], y :: m, _, _, h => by have := (h y).2 (by simp); simp at this
  | x :: l, [], _, _, h => by have := (h x).1 (by simp); simp at this
  | x :: l, y :: m, hl, hm, h => by
    obtain ⟨a1, a2⟩ := List.pairwise_cons.1 hl
    obtain ⟨b1, b2⟩ := List.pairwise_cons.1 hm
    have e : x = y := by
      rcases List.mem_cons.1 ((h x).1 (by simp)) with r | r
      · exact r
      · rcases List.mem_cons.1 ((h y).2 (by simp)) with r2 | r2
        · exact r2.symm
        · have := b1 x r; have := a1 y r2; omega
    subst e
    congr 1
    refine inc_ext a2 b2 fun z => ?_
    have hz := h z
    constructor
    · intro hz2
      rcases List.mem_cons.1 (hz.1 (List.mem_cons_of_mem _ hz2)) with r | r
      · have := a1 z hz2; omega
      · exact r
    · intro hz2
      rcases List.mem_cons.1 (hz.2 (List.mem_cons_of_mem _ hz2)) with r | r
      · have := b1 z hz2; omega
      · exact r

/-- The places up to i for which a test says yes, in order. -/
def sel (f : Nat → Bool) : Nat → List Int
  | 0 => []
  | i + 1 => if f i then sel f i ++ [(i : Int)] else sel f i

theorem mem_sel {f : Nat → Bool} : ∀ {i : Nat} {x : Int}, x ∈ sel f i ↔ ∃ j : Nat, j < i ∧ x = j ∧ f j = true
  | 0, x => by simp [sel]
  | i + 1, x => by
    unfold sel
    split
    · rename_i h
      rw [List.mem_append, mem_sel (i := i)]
      constructor
      · rintro (⟨j, h1, h2, h3⟩ | hx)
        · exact ⟨j, by omega, h2, h3⟩
        · simp at hx; exact ⟨i, by omega, hx, h⟩
      · rintro ⟨j, h1, h2, h3⟩
        by_cases hj : j = i
        · subst hj; right; simp [h2]
        · left; exact ⟨j, by omega, h2, h3⟩
    · rename_i h
      rw [mem_sel (i := i)]
      constructor
      · rintro ⟨j, h1, h2, h3⟩; exact ⟨j, by omega, h2, h3⟩
      · rintro ⟨j, h1, h2, h3⟩
        by_cases hj : j = i
        · subst hj; exact absurd h3 h
        · exact ⟨j, by omega, h2, h3⟩

theorem sel_inc {f : Nat → Bool} : ∀ i, (sel f i).Pairwise (· < ·)
  | 0 => by simp [sel]
  | i + 1 => by
    unfold sel
    split
    · refine List.pairwise_append.2 ⟨sel_inc i, by simp, ?_⟩
      intro a ha x hx
      obtain ⟨j, h1, h2, _⟩ := mem_sel.1 ha
      simp at hx; omega
    · exact sel_inc i

theorem sel_len {f : Nat → Bool} : ∀ i, (sel f i).length ≤ i
  | 0 => by simp [sel]
  | i + 1 => by
    have := sel_len (f := f) i
    unfold sel
    split
    · simp; omega
    · omega

theorem pend_r (b : Int → Int) (n : Nat) : sel (fun j => g (st b n).p j == -2 && isR (b j)) n = (st b n).r := by
  have I := inv b n
  refine inc_ext (sel_inc n) (List.pairwise_append.1 I.inc).1 fun x => ?_
  rw [mem_sel]
  constructor
  · rintro ⟨j, h1, rfl, h3⟩
    simp at h3
    rcases (I.m2 j h1).1 h3.1 with h | h
    · exact h
    · have := isR_notC h3.2; rw [I.bc j h] at this; cases this
  · intro h
    have hx := I.ba.hr x h
    obtain ⟨j, rfl⟩ := Int.eq_ofNat_of_zero_le hx.1
    refine ⟨j, by omega, rfl, ?_⟩
    have := (I.m2 j (by omega)).2 (Or.inl h)
    simp [this, I.br j h]

theorem pend_c (b : Int → Int) (n : Nat) : sel (fun j => g (st b n).p j == -2 && isC (b j)) n = (st b n).c := by
  have I := inv b n
  refine inc_ext (sel_inc n) (List.pairwise_append.1 I.inc).2.1 fun x => ?_
  rw [mem_sel]
  constructor
  · rintro ⟨j, h1, rfl, h3⟩
    simp at h3
    rcases (I.m2 j h1).1 h3.1 with h | h
    · have := isR_notC (I.br j h); rw [h3.2] at this; cases this
    · exact h
  · intro h
    have hx := I.ba.hc x h
    obtain ⟨j, rfl⟩ := Int.eq_ofNat_of_zero_le hx.1
    refine ⟨j, by omega, rfl, ?_⟩
    have := (I.m2 j (by omega)).2 (Or.inr h)
    simp [this, I.bc j h]

end Go.Proofs.Ytndlepcfbbfegaa.Th
namespace Go.Proofs.Ytndlepcfbbfegaa.Br
open Go.RowKit Go.Proofs.Ytndlepcfbbfegaa.P Go.Proofs.YtndlepcfbbfegaaW.PrintWords Go.Proofs.YtndlepcfbbfegaaW.PrintLast Go.Proofs.YtndlepcfbbfegaaW.PrintMore Go.Proofs.Ytndlepcfbbfegaa.Th
set_option linter.unusedVariables false
set_option linter.unusedSimpArgs false
theorem Ev.succ {α : Type} {g : Nat → Option α} {r : α} (h : Ev (fun k => g (k + 1)) r) : Ev g r := by
  obtain ⟨K, hK⟩ := h
  refine ⟨K + 1, fun k hk => ?_⟩
  obtain ⟨m, rfl⟩ : ∃ m, k = m + 1 := ⟨k - 1, by omega⟩
  exact hK m (by omega)
theorem Ev.done {α : Type} {r s : α} (h : r = s) : Ev (fun _ : Nat => some r) s := h ▸ Ev.now r
theorem w64 {x : Int} (h0 : -9223372036854775808 ≤ x) (h1 : x ≤ 9223372036854775807) : wrap64 x = x := by unfold wrap64; omega

/-- The number of a symbol, -1 if it is none. -/
def sym (b : Int) : Int := if b = 40 then 0 else if b = 91 then 1 else if b = 41 then 2 else if b = 93 then 3 else if b = 97 then 4 else if b = 98 then 5 else -1

def allFrom (f : Nat → Bool) : Nat → Nat → Bool
  | 0, _ => true
  | d + 1, i => f i && allFrom f d (i + 1)

/-- Is a text a word. -/
def okw (a : ByteArray) : Bool := allFrom (fun j => decide (0 ≤ sym (bt a j))) a.size 0 && decide ((a.size : Int) ≤ 60)

theorem bs0 : bt (⟨#[40, 91, 41, 93, 97, 98]⟩ : ByteArray) 0 = 40 := by decide
theorem bs1 : bt (⟨#[40, 91, 41, 93, 97, 98]⟩ : ByteArray) 1 = 91 := by decide
theorem bs2 : bt (⟨#[40, 91, 41, 93, 97, 98]⟩ : ByteArray) 2 = 41 := by decide
theorem bs3 : bt (⟨#[40, 91, 41, 93, 97, 98]⟩ : ByteArray) 3 = 93 := by decide
theorem bs4 : bt (⟨#[40, 91, 41, 93, 97, 98]⟩ : ByteArray) 4 = 97 := by decide
theorem bs5 : bt (⟨#[40, 91, 41, 93, 97, 98]⟩ : ByteArray) 5 = 98 := by decide

theorem symbol_ev (b : Int) : Ev (fun k => spec_l01Symbol.f k b) (sym b) := by
  unfold spec_l01Symbol.f sym
  have w1 : wrap64 (0 + 1) = 1 := by unfold wrap64; omega
  have w2 : wrap64 (1 + 1) = 2 := by unfold wrap64; omega
  have w3 : wrap64 (2 + 1) = 3 := by unfold wrap64; omega
  have w4 : wrap64 (3 + 1) = 4 := by unfold wrap64; omega
  have w5 : wrap64 (4 + 1) = 5 := by unfold wrap64; omega
  have w6 : wrap64 (5 + 1) = 6 := by unfold wrap64; omega
  refine Ev.succ ?_
  simp only [spec_l01Symbol.l0, bs0]
  by_cases h0 : b = 40
  · subst h0; exact Ev.done rfl
  rw [if_neg h0]
  simp only [if_neg (Ne.symm h0), w1]
  refine Ev.succ ?_
  simp only [spec_l01Symbol.l0, bs1]
  by_cases h0 : b = 91
  · subst h0; exact Ev.done rfl
  rw [if_neg h0]
  simp only [if_neg (Ne.symm h0), w2]
  refine Ev.succ ?_
  simp only [spec_l01Symbol.l0, bs2]
  by_cases h0 : b = 41
  · subst h0; exact Ev.done rfl
  rw [if_neg h0]
  simp only [if_neg (Ne.symm h0), w3]
  refine Ev.succ ?_
  simp only [spec_l01Symbol.l0, bs3]
  by_cases h0 : b = 93
  · subst h0; exact Ev.done rfl
  rw [if_neg h0]
  simp only [if_neg (Ne.symm h0), w4]
  refine Ev.succ ?_
  simp only [spec_l01Symbol.l0, bs4]
  by_cases h0 : b = 97
  · subst h0; exact Ev.done rfl
  rw [if_neg h0]
  simp only [if_neg (Ne.symm h0), w5]
  refine Ev.succ ?_
  simp only [spec_l01Symbol.l0, bs5]
  by_cases h0 : b = 98
  · subst h0; exact Ev.done rfl
  rw [if_neg h0]
  simp only [if_neg (Ne.symm h0), w6]
  refine Ev.succ ?_
  simp only [spec_l01Symbol.l0]
  exact Ev.done rfl

theorem index_eq {b : Int} (h0 : 0 ≤ b) (h1 : b ≤ 255) : strings_IndexByte.f (⟨#[40, 91, 41, 93, 97, 98]⟩ : ByteArray) b = some (sym b) := by
  obtain ⟨n, rfl⟩ := Int.eq_ofNat_of_zero_le h0
  have hn : n < 256 := by omega
  clear h0 h1
  unfold strings_IndexByte.f
  congr 1
  have key : ∀ n : Fin 256, Lib.indexByte (⟨#[40, 91, 41, 93, 97, 98]⟩ : ByteArray).data.toList ((n.val : Int).toNat.toUInt8) = sym (n.val : Int) := by decide +kernel
  exact key ⟨n, hn⟩

theorem specOk_loop (a : ByteArray) (hn : a.size ≤ 1048576) : ∀ d i : Nat, i + d = a.size →
    Ev (fun k => spec_l01Ok.l0 k a i) (allFrom (fun j => decide (0 ≤ sym (bt a j))) d i && decide ((a.size : Int) ≤ 60)) := by
  intro d
  induction d with
  | zero =>
    intro i hi
    refine Ev.succ ?_
    simp only [spec_l01Ok.l0, if_neg (show ¬ (i : Int) < (a.size : Int) by omega), allFrom, Bool.true_and]
    exact Ev.done rfl
  | succ d ih =>
    intro i hi
    refine Ev.succ ?_
    simp only [spec_l01Ok.l0, if_pos (show (i : Int) < (a.size : Int) by omega), if_pos (show (0 : Int) ≤ (i : Int) by omega), allFrom]
    refine Ev.bind (symbol_ev _) ?_
    rw [w64 (by omega) (by omega)]
    by_cases h : sym (bt a i) < 0
    · simp only [if_pos h]
      exact Ev.done (by simp; omega)
    · simp only [if_neg h]
      have := ih (i + 1) (by omega)
      simpa [show 0 ≤ sym (bt a i) by omega] using this

theorem specOk_ev (a : ByteArray) (hn : a.size ≤ 1048576) : Ev (fun k => spec_l01Ok.f k a) (okw a) := specOk_loop a hn a.size 0 (by omega)

theorem valid_loop (a : ByteArray) (hn : a.size ≤ 1048576) : ∀ d i : Nat, i + d = a.size →
    Ev (fun k => impl_ValidWord.l0 k a a.size i) (allFrom (fun j => decide (0 ≤ sym (bt a j))) d i && decide ((a.size : Int) ≤ 60)) := by
  intro d
  induction d with
  | zero =>
    intro i hi
    refine Ev.succ ?_
    simp only [impl_ValidWord.l0, if_neg (show ¬ (i : Int) < (a.size : Int) by omega), allFrom, Bool.true_and]
    exact Ev.done rfl
  | succ d ih =>
    intro i hi
    refine Ev.succ ?_
    have hb := bt_range a i
    simp only [impl_ValidWord.l0, if_pos (show (i : Int) < (a.size : Int) by omega), if_pos (show (0 : Int) ≤ (i : Int) by omega), allFrom, index_eq hb.1 hb.2, Option.bind_some]
    rw [w64 (by omega) (by omega)]
    by_cases h : sym (bt a i) < 0
    · simp only [if_pos h]
      exact Ev.done (by simp; omega)
    · simp only [if_neg h]
      have := ih (i + 1) (by omega)
      simpa [show 0 ≤ sym (bt a i) by omega] using this

theorem valid_ev (a : ByteArray) (hn : a.size ≤ 1048576) : Ev (fun k => impl_ValidWord.f k a) (okw a) := valid_loop a hn a.size 0 (by omega)

end Go.Proofs.Ytndlepcfbbfegaa.Br
namespace Go.Proofs.Ytndlepcfbbfegaa.Br
open Go.RowKit Go.Proofs.Ytndlepcfbbfegaa.P Go.Proofs.YtndlepcfbbfegaaW.PrintWords Go.Proofs.YtndlepcfbbfegaaW.PrintLast Go.Proofs.YtndlepcfbbfegaaW.PrintMore Go.Proofs.Ytndlepcfbbfegaa.Th
set_option linter.unusedVariables false
set_option linter.unusedSimpArgs false
theorem isReturn_eq (b : Int) : impl_isReturn.f b = some (isR b) := by
  unfold impl_isReturn.f isR
  by_cases h : b = 41 <;> simp [h]
theorem isCall_eq (b : Int) : impl_isCall.f b = some (isC b) := by
  unfold impl_isCall.f isC
  by_cases h : b = 40 <;> simp [h]
theorem sReturn_eq (b : Int) : spec_l01Return.f b = some (isR b) := by
  unfold spec_l01Return.f isR
  by_cases h : b = 41 <;> simp [h]
theorem sCall_eq (b : Int) : spec_l01Call.f b = some (isC b) := by
  unfold spec_l01Call.f isC
  by_cases h : b = 40 <;> simp [h]

theorem rd_last {c : List Int} (h : c ≠ []) : rd c ((c.length : Int) - 1) = top c := by
  unfold rd top
  have : 0 < c.length := List.length_pos_iff.2 h
  rw [List.getLast?_eq_getElem?, List.getD_eq_getElem?_getD, show ((c.length : Int) - 1).toNat = c.length - 1 by omega, List.getElem?_eq_getElem (by omega)]
  rfl

theorem top_nil {c : List Int} (h : c = []) : top c = -1 := by subst h; rfl
theorem take_last {c : List Int} : c.take ((c.length : Int) - 1).toNat = c.dropLast := by
  rw [List.dropLast_eq_take, show ((c.length : Int) - 1).toNat = c.length - 1 by omega]

/-- From the head of j2 on: the parent is told, a call is put on the stack, the rows grow. -/
theorem match_j2 (a : ByteArray) (hn : a.size ≤ 1048576) (i : Nat) (hi : i < a.size) (x6 : Int) (p r c d q : List Int) (R : List Int × List Int × List Int × List Int × List Int)
    (lp : p.length ≤ i) (lr : r.length ≤ i + 1) (lc : c.length ≤ i) (ld : d.length ≤ i + 1) (lq : q.length ≤ i)
    (h : if isC (bt a i) = true then Ev (fun k => impl_match.l0 k a a.size (i + 1 : Nat) (p ++ [-2]) r (c ++ [(i : Int)]) (d ++ [(c.length : Int) + 1]) (q ++ [top c])) R
         else Ev (fun k => impl_match.l0 k a a.size (i + 1 : Nat) (p ++ [x6]) r c (d ++ [(c.length : Int)]) (q ++ [top c])) R) :
    Ev (fun k => impl_match.j2 k a i i x6 a.size i p r c d q) R := by
  have j3 : Ev (fun k => impl_match.j3 k a i i x6 (top c) a.size i p r c d q) R := by
    refine Ev.succ ?_
    simp only [impl_match.j3, if_pos (show (0 : Int) ≤ (i : Int) by omega), if_pos (show (i : Int) < (a.size : Int) by omega), isCall_eq, Option.bind_some]
    have j4 : ∀ (x : Int) (c2 : List Int), c2.length ≤ i + 1 → Ev (fun k => impl_match.l0 k a a.size (i + 1 : Nat) (p ++ [x]) r c2 (d ++ [(c2.length : Int)]) (q ++ [top c])) R → Ev (fun k => impl_match.j4 k a x (top c) a.size i p r c2 d q) R := by
      intro x c2 l2 h2
      refine Ev.succ ?_
      simp only [impl_match.j4, Option.bind_some, impl_size_int64.f, List.length_cons, List.length_nil]
      rw [w64 (by omega) (by omega)]
      simp only [if_pos (show p.length + (0 + 1) < 17592186044416 by omega), if_pos (show q.length + (0 + 1) < 17592186044416 by omega), if_pos (show d.length + (0 + 1) < 17592186044416 by omega)]
      exact h2
    by_cases hC : isC (bt a i) = true
    · simp only [hC, if_true, List.length_cons, List.length_nil, if_pos (show c.length + (0 + 1) < 17592186044416 by omega)] at h ⊢
      refine j4 (-2) (c ++ [(i : Int)]) (by simp; omega) ?_
      simpa using h
    · simp only [if_neg hC] at h ⊢
      exact j4 x6 c (by omega) h
  refine Ev.succ ?_
  simp only [impl_match.j2]
  by_cases hc : c = []
  · simp only [if_neg (show ¬ (c.length : Int) > 0 by simp [hc])]
    rw [top_nil hc] at j3
    exact j3
  · have : 0 < c.length := List.length_pos_iff.2 hc
    rw [w64 (by omega) (by omega)]
    simp only [if_pos (show (c.length : Int) > 0 by omega), if_pos (show 0 ≤ (c.length : Int) - 1 by omega), if_pos (show (c.length : Int) - 1 < (c.length : Int) by omega), rd_last hc]
    exact j3

theorem match_loop (a : ByteArray) (hn : a.size ≤ 1048576) : ∀ d i : Nat, i + d = a.size →
    Ev (fun k => impl_match.l0 k a a.size i (st (bt a) i).p (st (bt a) i).r (st (bt a) i).c (st (bt a) i).d (st (bt a) i).q)
      ((st (bt a) a.size).p, (st (bt a) a.size).r, (st (bt a) a.size).c, (st (bt a) a.size).d, (st (bt a) a.size).q) := by
  intro d
  induction d with
  | zero =>
    intro i hi
    obtain rfl : i = a.size := by omega
    refine Ev.succ ?_
    simp only [impl_match.l0, if_neg (show ¬ (a.size : Int) < (a.size : Int) by omega)]
    exact Ev.now _
  | succ d ih =>
    intro i hi
    have B := basic (bt a) i
    have hnext := ih (i + 1) (by omega)
    have hst : st (bt a) (i + 1) = Th.step (st (bt a) i) i (bt a i) := rfl
    rw [hst] at hnext
    obtain ⟨lp, lq, ld, lr, lc, hc, hr⟩ := B
    generalize st (bt a) i = s at *
    refine Ev.succ ?_
    simp only [impl_match.l0, if_pos (show (i : Int) < (a.size : Int) by omega), if_pos (show (0 : Int) ≤ (i : Int) by omega), isReturn_eq, Option.bind_some]
    by_cases hR : isR (bt a i) = true
    · have hC := isR_notC hR
      simp only [hR, if_true]
      refine Ev.succ ?_
      simp only [impl_match.j1]
      by_cases he : s.c = []
      · simp only [he, List.length_nil, Int.ofNat_zero, Int.natCast_zero, BEq.rfl, if_true, Option.bind_some, List.length_cons]
        simp only [if_pos (show s.r.length + (0 + 1) < 17592186044416 by omega)]
        refine match_j2 a hn i (by omega) (-2) _ _ _ _ _ _ (by omega) (by simp; omega) (by simp) (by omega) (by omega) ?_
        rw [if_neg (by simp [hC])]
        simp only [Th.step, hR, if_true, he] at hnext
        exact hnext
      · have hl : 0 < s.c.length := List.length_pos_iff.2 he
        have ht := hc _ (top_mem he)
        have hz : ((s.c.length : Int) == 0) = false := by simp; omega
        simp only [hz, Bool.false_eq_true, if_false]
        rw [w64 (by omega) (by omega)]
        simp only [if_pos (show (0 : Int) ≤ (i : Int) by omega), if_pos (show (i : Int) < (a.size : Int) by omega), isReturn_eq, Option.bind_some, hR, if_true,
          if_pos (show 0 ≤ (s.c.length : Int) - 1 by omega), if_pos (show (s.c.length : Int) - 1 < (s.c.length : Int) by omega), rd_last he, if_pos ht.1, if_pos (show top s.c < (s.p.length : Int) by omega), if_pos (show (s.c.length : Int) - 1 ≤ (s.c.length : Int) by omega), take_last]
        refine match_j2 a hn i (by omega) _ _ _ _ _ _ _ (by simp; omega) (by omega) (by simp; omega) (by omega) (by omega) ?_
        rw [if_neg (by simp [hC])]
        simp only [Th.step, hR, if_true, if_neg he] at hnext
        exact hnext
    · have hR' : isR (bt a i) = false := by simpa using hR
      simp only [hR', Bool.false_eq_true, if_false]
      refine Ev.succ ?_
      simp only [impl_match.j1, Bool.false_eq_true, if_false, if_pos (show (0 : Int) ≤ (i : Int) by omega), if_pos (show (i : Int) < (a.size : Int) by omega), isReturn_eq, Option.bind_some, hR']
      refine match_j2 a hn i (by omega) (-1) _ _ _ _ _ _ (by omega) (by omega) (by omega) (by omega) (by omega) ?_
      by_cases hC : isC (bt a i) = true
      · rw [if_pos hC]
        simp only [Th.step, hR', Bool.false_eq_true, if_false, hC, if_true] at hnext
        exact hnext
      · rw [if_neg hC]
        simp only [Th.step, hR', Bool.false_eq_true, if_false, hC] at hnext
        exact hnext

theorem match_ev (a : ByteArray) (hn : a.size ≤ 1048576) : Ev (fun k => impl_match.f k a)
    ((st (bt a) a.size).p, (st (bt a) a.size).r, (st (bt a) a.size).c, (st (bt a) a.size).d, (st (bt a) a.size).q) := match_loop a hn a.size 0 (by omega)

end Go.Proofs.Ytndlepcfbbfegaa.Br
namespace Go.Proofs.Ytndlepcfbbfegaa.Br
open Go.RowKit Go.Proofs.Ytndlepcfbbfegaa.P Go.Proofs.YtndlepcfbbfegaaW.PrintWords Go.Proofs.YtndlepcfbbfegaaW.PrintLast Go.Proofs.YtndlepcfbbfegaaW.PrintMore Go.Proofs.Ytndlepcfbbfegaa.Th
set_option linter.unusedVariables false
set_option linter.unusedSimpArgs false
theorem partners_loop (a : ByteArray) (hn : a.size ≤ 1048576) : ∀ d i : Nat, i + d = a.size →
    Ev (fun k => spec_l01Partners.l0 k a (st (bt a) i).p (st (bt a) i).c i) (st (bt a) a.size).p := by
  intro d
  induction d with
  | zero =>
    intro i hi
    obtain rfl : i = a.size := by omega
    refine Ev.succ ?_
    simp only [spec_l01Partners.l0, if_neg (show ¬ (a.size : Int) < (a.size : Int) by omega)]
    exact Ev.now _
  | succ d ih =>
    intro i hi
    have B := basic (bt a) i
    have hnext := ih (i + 1) (by omega)
    have hst : st (bt a) (i + 1) = Th.step (st (bt a) i) i (bt a i) := rfl
    rw [hst] at hnext
    obtain ⟨lp, lq, ld, lr, lc, hc, hr⟩ := B
    generalize st (bt a) i = s at *
    refine Ev.succ ?_
    simp only [spec_l01Partners.l0, if_pos (show (i : Int) < (a.size : Int) by omega), if_pos (show (0 : Int) ≤ (i : Int) by omega), sCall_eq, sReturn_eq, Option.bind_some]
    by_cases hC : isC (bt a i) = true
    · have hR : isR (bt a i) = false := by
        cases h : isR (bt a i) with
        | false => rfl
        | true => rw [isR_notC h] at hC; cases hC
      simp only [hC, if_true]
      rw [w64 (by omega) (by omega)]
      simp only [if_pos (show s.p.length < 17592186044416 by omega), if_pos (show s.c.length < 17592186044416 by omega)]
      simp only [Th.step, hR, Bool.false_eq_true, if_false, hC, if_true] at hnext
      exact hnext
    · have hC' : isC (bt a i) = false := by simpa using hC
      simp only [hC', Bool.false_eq_true, if_false]
      by_cases hR : isR (bt a i) = true
      · simp only [hR, if_true]
        refine Ev.succ ?_
        simp only [spec_l01Partners.j1]
        by_cases he : s.c = []
        · simp only [he, List.length_nil, show decide (((0 : Nat) : Int) > 0) = false by decide, Bool.false_eq_true, if_false, if_pos (show (i : Int) < (a.size : Int) by omega), if_pos (show (0 : Int) ≤ (i : Int) by omega), sReturn_eq, Option.bind_some, hR, if_true, if_pos (show s.p.length < 17592186044416 by omega)]
          rw [w64 (by omega) (by omega)]
          simp only [Th.step, hR, if_true, he] at hnext
          exact hnext
        · have hl : 0 < s.c.length := List.length_pos_iff.2 he
          have ht := hc _ (top_mem he)
          rw [w64 (show -9223372036854775808 ≤ (s.c.length : Int) - 1 by omega) (by omega), w64 (by omega) (by omega)]
          simp only [show decide ((s.c.length : Int) > 0) = true by simp; omega, if_true, Option.bind_some,
            if_pos (show 0 ≤ (s.c.length : Int) - 1 by omega), if_pos (show (s.c.length : Int) - 1 < (s.c.length : Int) by omega), rd_last he, if_pos ht.1, if_pos (show top s.c < (s.p.length : Int) by omega), if_pos (show (s.c.length : Int) - 1 ≤ (s.c.length : Int) by omega), take_last, List.length_set, if_pos (show s.p.length < 17592186044416 by omega)]
          simp only [Th.step, hR, if_true, if_neg he] at hnext
          exact hnext
      · have hR' : isR (bt a i) = false := by simpa using hR
        simp only [hR', Bool.false_eq_true, if_false]
        refine Ev.succ ?_
        simp only [spec_l01Partners.j1, Bool.false_eq_true, if_false, if_pos (show (i : Int) < (a.size : Int) by omega), if_pos (show (0 : Int) ≤ (i : Int) by omega), sReturn_eq, Option.bind_some, hR', if_pos (show s.p.length < 17592186044416 by omega)]
        rw [w64 (by omega) (by omega)]
        simp only [Th.step, hR', Bool.false_eq_true, if_false, hC'] at hnext
        exact hnext

theorem partners_ev (a : ByteArray) (hn : a.size ≤ 1048576) : Ev (fun k => spec_l01Partners.f k a) (st (bt a) a.size).p := partners_loop a hn a.size 0 (by omega)

theorem g_rd (l : List Int) (i : Nat) : rd l i = g l i := by unfold rd g; simp

theorem pending_loop (a : ByteArray) (hn : a.size ≤ 1048576) (p : List Int) (hp : p.length = a.size) : ∀ d i : Nat, i + d = a.size →
    Ev (fun k => spec_l01Pending.l0 k a p ((sel (fun j => g p j == -2 && isR (bt a j)) i).length : Int) ((sel (fun j => g p j == -2 && isC (bt a j)) i).length : Int) i)
      (((sel (fun j => g p j == -2 && isR (bt a j)) a.size).length : Int), ((sel (fun j => g p j == -2 && isC (bt a j)) a.size).length : Int)) := by
  intro d
  induction d with
  | zero =>
    intro i hi
    obtain rfl : i = a.size := by omega
    refine Ev.succ ?_
    simp only [spec_l01Pending.l0, if_neg (show ¬ (a.size : Int) < (a.size : Int) by omega)]
    exact Ev.now _
  | succ d ih =>
    intro i hi
    have hnext := ih (i + 1) (by omega)
    have e1 : ((sel (fun j => g p j == -2 && isR (bt a j)) (i + 1)).length : Int) = (sel (fun j => g p j == -2 && isR (bt a j)) i).length + (if g p i = -2 ∧ isR (bt a i) = true then 1 else 0) := by
      rw [sel]; by_cases h1 : g p i = -2 <;> by_cases h2 : isR (bt a i) = true <;> simp [h1, h2]
    have e2 : ((sel (fun j => g p j == -2 && isC (bt a j)) (i + 1)).length : Int) = (sel (fun j => g p j == -2 && isC (bt a j)) i).length + (if g p i = -2 ∧ isC (bt a i) = true then 1 else 0) := by
      rw [sel]; by_cases h1 : g p i = -2 <;> by_cases h2 : isC (bt a i) = true <;> simp [h1, h2]
    have l1 := sel_len (f := fun j => g p j == -2 && isR (bt a j)) i
    have l2 := sel_len (f := fun j => g p j == -2 && isC (bt a j)) i
    rw [e1, e2] at hnext
    generalize ((sel (fun j => g p j == -2 && isR (bt a j)) a.size).length : Int) = R1 at *
    generalize ((sel (fun j => g p j == -2 && isC (bt a j)) a.size).length : Int) = R2 at *
    generalize (sel (fun j => g p j == -2 && isR (bt a j)) i).length = x at *
    generalize (sel (fun j => g p j == -2 && isC (bt a j)) i).length = y at *
    clear e1 e2
    have b1 : (i : Int) < (a.size : Int) := by omega
    have b2 : (0 : Int) ≤ (i : Int) := by omega
    have b3 : (i : Int) < (p.length : Int) := by omega
    have f1 : wrap64 ((x : Int) + 1) = (x : Int) + 1 := w64 (by omega) (by omega)
    have f2 : wrap64 ((y : Int) + 1) = (y : Int) + 1 := w64 (by omega) (by omega)
    have f3 : wrap64 ((i : Int) + 1) = (i : Int) + 1 := w64 (by omega) (by omega)
    refine Ev.succ ?_
    simp only [spec_l01Pending.l0, if_pos b1, if_pos b2, if_pos b3, g_rd, sReturn_eq, Option.bind_some]
    have fin : ∀ z : Bool, z = (g p i == -2 && isR (bt a i)) → Ev (fun k => spec_l01Pending.j1 k a p x y i z) (R1, R2) := by
      intro z hz
      refine Ev.succ ?_
      simp only [spec_l01Pending.j1, if_pos b1, if_pos b2, if_pos b3, g_rd, sCall_eq, Option.bind_some, f1, f2, f3]
      subst hz
      by_cases h1 : g p i = -2 <;> by_cases h2 : isR (bt a i) = true <;> by_cases h3 : isC (bt a i) = true <;>
        simp only [h1, h2, h3, and_self, if_true, if_false, and_true, true_and, and_false, false_and, Int.add_zero, Bool.false_eq_true, BEq.rfl, Bool.true_and, Bool.and_true, Bool.and_false, Bool.false_and] at hnext ⊢ <;> first | exact hnext | (simp only [beq_eq_false_iff_ne.2 h1, Bool.false_and, Bool.false_eq_true, if_false]; exact hnext)
    by_cases h1 : g p i = -2
    · simp only [h1, if_true]
      exact fin _ (by simp [h1])
    · simp only [h1, if_false]
      exact fin _ (by simp [h1])

theorem pending_ev (a : ByteArray) (hn : a.size ≤ 1048576) : Ev (fun k => spec_l01Pending.f k a) (((st (bt a) a.size).r.length : Int), ((st (bt a) a.size).c.length : Int)) := by
  unfold spec_l01Pending.f
  refine Ev.bind (partners_ev a hn) ?_
  have := pending_loop a hn (st (bt a) a.size).p (basic (bt a) a.size).lp a.size 0 (by omega)
  rw [pend_r, pend_c] at this
  exact this

end Go.Proofs.Ytndlepcfbbfegaa.Br
namespace Go.Proofs.Ytndlepcfbbfegaa.Br
open Go.RowKit Go.Proofs.Ytndlepcfbbfegaa.P Go.Proofs.YtndlepcfbbfegaaW.PrintWords Go.Proofs.YtndlepcfbbfegaaW.PrintLast Go.Proofs.YtndlepcfbbfegaaW.PrintMore Go.Proofs.Ytndlepcfbbfegaa.Th
set_option linter.unusedVariables false
set_option linter.unusedSimpArgs false
/-- Is a word matched. -/
def mtc (a : ByteArray) : Bool := ((((st (bt a) a.size).r.length : Int) + ((st (bt a) a.size).c.length : Int)) == 0)
theorem sMatched_ev (a : ByteArray) (hn : a.size ≤ 1048576) : Ev (fun k => spec_l01Matched.f k a) (mtc a) := by
  unfold spec_l01Matched.f
  refine Ev.bind (pending_ev a hn) ?_
  have B := basic (bt a) a.size
  have h1 := B.lr
  have h2 := B.lc
  simp only
  rw [w64 (by omega) (by omega)]
  exact Ev.now _
theorem iMatched_ev (a : ByteArray) (hn : a.size ≤ 1048576) : Ev (fun k => impl_isMatched.f k a) (mtc a) := by
  unfold impl_isMatched.f
  refine Ev.bind (match_ev a hn) ?_
  have B := basic (bt a) a.size
  have h1 := B.lr
  have h2 := B.lc
  simp only
  rw [w64 (by omega) (by omega)]
  exact Ev.now _
end Go.Proofs.Ytndlepcfbbfegaa.Br
namespace Go.Proofs.Ytndlepcfbbfegaa.Br
open Go.RowKit Go.Proofs.Ytndlepcfbbfegaa.P Go.Proofs.YtndlepcfbbfegaaW.PrintWords Go.Proofs.YtndlepcfbbfegaaW.PrintLast Go.Proofs.YtndlepcfbbfegaaW.PrintMore Go.Proofs.Ytndlepcfbbfegaa.Th
set_option linter.unusedVariables false
set_option linter.unusedSimpArgs false
theorem mtc_nil {a : ByteArray} (h : mtc a = true) : (st (bt a) a.size).r = [] ∧ (st (bt a) a.size).c = [] := by
  unfold mtc at h
  simp only [beq_iff_eq] at h
  constructor
  · apply List.eq_nil_of_length_eq_zero; omega
  · apply List.eq_nil_of_length_eq_zero; omega
/-- In a matched word nothing is pending: calls go ahead, all else does not. -/
theorem mtc_p {a : ByteArray} (h : mtc a = true) {i : Nat} (hi : i < a.size) : (isC (bt a i) = true → (i : Int) < g (st (bt a) a.size).p i ∧ g (st (bt a) a.size).p i < a.size) ∧ (isC (bt a i) = false → g (st (bt a) a.size).p i < i) := by
  have I := inv (bt a) a.size
  obtain ⟨h1, h2⟩ := mtc_nil h
  have n2 : g (st (bt a) a.size).p i ≠ -2 := by
    intro e
    have := (I.m2 i hi).1 e
    rw [h1, h2] at this
    simp at this
  have lo := I.lo i hi
  constructor
  · intro hC
    have n1 : g (st (bt a) a.size).p i ≠ -1 := by
      intro e
      have := (I.m1 i hi).1 e
      rw [hC] at this
      simp at this
    have := I.pos i hi (by omega)
    refine ⟨?_, this.1⟩
    rcases this.2.2 with h4 | h4
    · exact h4.2
    · rw [isR_notC h4.1] at hC; cases hC
  · intro hC
    by_cases h0 : 0 ≤ g (st (bt a) a.size).p i
    · have := I.pos i hi h0
      rcases this.2.2 with h4 | h4
      · rw [h4.1] at hC; cases hC
      · exact h4.2
    · omega

theorem factors_loop (a : ByteArray) (hn : a.size ≤ 1048576) (hm : mtc a = true) (p r c d q : List Int) (hp : p = (st (bt a) a.size).p) : ∀ n i : Nat, i ≤ a.size → a.size ≤ i + n → ∀ acc : List ByteArray, acc.length ≤ i →
    ∃ L : List ByteArray, Ev (fun k => spec_l01Factors.l0 k a p acc i) L ∧ Ev (fun k => impl_factors.l0 k a acc i p r c d q) L ∧ L.length ≤ a.size := by
  have lp : p.length = a.size := by rw [hp]; exact (basic (bt a) a.size).lp
  intro n
  induction n with
  | zero =>
    intro i hi hi2 acc ha
    obtain rfl : i = a.size := by omega
    refine ⟨acc, Ev.succ ?_, Ev.succ ?_, ha⟩
    · simp only [spec_l01Factors.l0, if_neg (show ¬ (a.size : Int) < (a.size : Int) by omega)]
      exact Ev.now _
    · simp only [impl_factors.l0, if_neg (show ¬ (a.size : Int) < (a.size : Int) by omega)]
      exact Ev.now _
  | succ n ih =>
    intro i hi hi2 acc ha
    by_cases hlt : i < a.size
    · have hh := mtc_p hm hlt
      rw [← hp] at hh
      -- where the factor ends
      have key : ∃ e : Nat, i < e ∧ e ≤ a.size ∧ (if isC (bt a i) = true then g p i + 1 else (i : Int) + 1) = e ∧ mx i (g p i) + 1 = e := by
        by_cases hC : isC (bt a i) = true
        · have := hh.1 hC
          refine ⟨(g p i + 1).toNat, by omega, by omega, by rw [if_pos hC]; omega, ?_⟩
          unfold mx
          rw [if_pos this.1]; omega
        · have := hh.2 (by simpa using hC)
          refine ⟨i + 1, by omega, by omega, by rw [if_neg hC]; push_cast; rfl, ?_⟩
          unfold mx
          rw [if_neg (by omega)]; push_cast; rfl
      obtain ⟨e, e1, e2, e3, e4⟩ := key
      obtain ⟨L, s1, s2, s3⟩ := ih e e2 (by omega) (acc ++ [a.extract i e]) (by simp; omega)
      have b1 : (i : Int) < (a.size : Int) := by omega
      have b2 : (0 : Int) ≤ (i : Int) := by omega
      have b3 : (i : Int) < (p.length : Int) := by omega
      have b4 : (i : Int) ≤ (e : Int) := by omega
      have b5 : (e : Int) ≤ (a.size : Int) := by omega
      have b6 : acc.length < 8796093022208 := by omega
      refine ⟨L, Ev.succ ?_, Ev.succ ?_, s3⟩
      · simp only [spec_l01Factors.l0, if_pos b1, if_pos b2, sCall_eq, Option.bind_some, g_rd]
        by_cases hC : isC (bt a i) = true
        · rw [if_pos hC] at e3
          have f1 : wrap64 (g p i + 1) = e := by rw [w64 (by omega) (by omega)]; exact e3
          simp only [hC, if_true, if_pos b3, f1, if_pos b4, if_pos b5, if_pos b6, Int.toNat_natCast]
          exact s1
        · rw [if_neg hC] at e3
          have f1 : wrap64 ((i : Int) + 1) = e := by rw [w64 (by omega) (by omega)]; exact e3
          simp only [hC, if_false, f1, if_pos b4, if_pos b5, if_pos b6, Int.toNat_natCast]
          exact s1
      · have f1 : wrap64 (mx i (g p i) + 1) = e := by rw [w64 (by omega) (by omega)]; exact e4
        simp only [impl_factors.l0, if_pos b1, if_pos b2, if_pos b3, g_rd, f1, if_pos b4, if_pos b5, if_pos b6, Int.toNat_natCast]
        exact s2
    · exact ih i hi (by omega) acc ha

theorem factors_both (a : ByteArray) (hn : a.size ≤ 1048576) : ∃ R : List ByteArray × Int, Ev (fun k => spec_FactorsOf.f k a) R ∧ Ev (fun k => impl_FactorsOf.f k a) R ∧ R.1.length ≤ 1048576 := by
  by_cases h : okw a = true
  · by_cases hm : mtc a = true
    · obtain ⟨L, s1, s2, s3⟩ := factors_loop a hn hm _ (st (bt a) a.size).r (st (bt a) a.size).c (st (bt a) a.size).d (st (bt a) a.size).q rfl a.size 0 (by omega) (by omega) [] (by simp)
      refine ⟨(L, 0), ?_, ?_, by simp; omega⟩
      · unfold spec_FactorsOf.f
        refine Ev.bind (specOk_ev a hn) ?_
        simp only [h, if_true]
        refine Ev.bind (sMatched_ev a hn) ?_
        simp only [hm, if_true]
        refine Ev.bind (a := L) ?_ (Ev.now _)
        unfold spec_l01Factors.f
        exact Ev.bind (partners_ev a hn) s1
      · unfold impl_FactorsOf.f
        refine Ev.bind (valid_ev a hn) ?_
        simp only [h, if_true]
        refine Ev.bind (iMatched_ev a hn) ?_
        simp only [hm, if_true]
        refine Ev.bind (a := L) ?_ (Ev.now _)
        unfold impl_factors.f
        exact Ev.bind (match_ev a hn) s2
    · refine ⟨([], 4), ?_, ?_, by simp⟩
      · unfold spec_FactorsOf.f
        refine Ev.bind (specOk_ev a hn) ?_
        simp only [h, if_true]
        refine Ev.bind (sMatched_ev a hn) ?_
        simp only [hm, if_false]
        exact Ev.now _
      · unfold impl_FactorsOf.f
        refine Ev.bind (valid_ev a hn) ?_
        simp only [h, if_true]
        refine Ev.bind (iMatched_ev a hn) ?_
        simp only [hm, if_false]
        exact Ev.now _
  · refine ⟨([], 1), ?_, ?_, by simp⟩
    · unfold spec_FactorsOf.f
      refine Ev.bind (specOk_ev a hn) ?_
      simp only [h, if_false]
      exact Ev.now _
    · unfold impl_FactorsOf.f
      refine Ev.bind (valid_ev a hn) ?_
      simp only [h, if_false]
      exact Ev.now _

theorem eqStrs_loop (l : List ByteArray) (hl : l.length ≤ 4194304) : ∀ d i : Nat, i + d = l.length → Ev (fun k => laws_eqStringS.l0 k l l i) true := by
  intro d
  induction d with
  | zero =>
    intro i hi
    refine Ev.succ ?_
    simp only [laws_eqStringS.l0, if_neg (show ¬ (i : Int) < (l.length : Int) by omega)]
    exact Ev.now _
  | succ d ih =>
    intro i hi
    have hnext := ih (i + 1) (by omega)
    have b1 : (i : Int) < (l.length : Int) := by omega
    have b2 : (0 : Int) ≤ (i : Int) := by omega
    have f3 : wrap64 ((i : Int) + 1) = (i : Int) + 1 := w64 (by omega) (by omega)
    refine Ev.succ ?_
    simp only [laws_eqStringS.l0, if_pos b1, if_pos b2, f3, if_true]
    exact hnext
theorem eqStrs_ev (l : List ByteArray) (hl : l.length ≤ 4194304) : Ev (fun k => laws_eqStringS.f k l l) true := by
  unfold laws_eqStringS.f
  simp only [if_true]
  exact eqStrs_loop l hl l.length 0 (Nat.zero_add _)

theorem markText_l (n : Nat) : ∀ (x : Int) (s : ByteArray), x ≤ n → s.size + n ≤ 1152921504606846976 → ∃ t, Ev (fun k => laws_markText.l0 k x s) t := by
  induction n with
  | zero =>
    intro x s hx hs
    have b1 : ¬ x > 0 := by omega
    have b2 : 1 + s.size ≤ 9223372036854775807 := by omega
    refine ⟨(⟨#[109]⟩ : ByteArray) ++ s, Ev.succ ?_⟩
    simp only [laws_markText.l0, if_neg b1, if_pos b2]
    exact Ev.now _
  | succ n ih =>
    intro x s hx hs
    by_cases h : x > 0
    · have hd : 0 ≤ Int.tdiv x 10 ∧ Int.tdiv x 10 ≤ n := by
        rw [Int.tdiv_eq_ediv_of_nonneg (by omega)]; omega
      have hsz : ∀ y : Int, (strOfNums [y]).size = 1 := fun y => by simp [strOfNums, ByteArray.size]
      obtain ⟨t, ht⟩ := ih (Int.tdiv x 10) (strOfNums [(wrap64 (48 + (Int.tmod x 10))) % 256] ++ s) hd.2 (by rw [ByteArray.size_append, hsz]; omega)
      have b2 : (strOfNums [(wrap64 (48 + (Int.tmod x 10))) % 256]).size + s.size ≤ 9223372036854775807 := by rw [hsz]; omega
      have f1 : wrap64 (Int.tdiv x 10) = Int.tdiv x 10 := w64 (by omega) (by omega)
      refine ⟨t, Ev.succ ?_⟩
      simp only [laws_markText.l0, if_pos h, Option.bind_some, if_pos b2, f1]
      exact ht
    · have b2 : 1 + s.size ≤ 9223372036854775807 := by omega
      refine ⟨(⟨#[109]⟩ : ByteArray) ++ s, Ev.succ ?_⟩
      simp only [laws_markText.l0, if_neg h, if_pos b2]
      exact Ev.now _
theorem markText_all : ∃ F : Int → ByteArray, ∀ x : Int, x ≤ 1099511627776 → Ev (fun k => laws_markText.f k x) (F x) := by
  have h : ∀ x : Int, ∃ t, x ≤ 1099511627776 → Ev (fun k => laws_markText.f k x) t := by
    intro x
    by_cases hx : x ≤ 1099511627776
    · unfold laws_markText.f
      by_cases h0 : x ≤ 0
      · exact ⟨⟨#[109, 48]⟩, fun _ => by simp only [if_pos h0]; exact Ev.now _⟩
      · obtain ⟨t, ht⟩ := markText_l x.toNat x (⟨#[]⟩ : ByteArray) (by omega) (by show 0 + x.toNat ≤ _; omega)
        exact ⟨t, fun _ => by simp only [if_neg h0]; exact ht⟩
    · exact ⟨⟨#[]⟩, fun h => absurd h hx⟩
  exact ⟨fun x => Classical.choose (h x), fun x => Classical.choose_spec (h x)⟩

/-- n texts from a on. -/
def ups (F : Int → ByteArray) (a : Int) : Nat → List ByteArray
  | 0 => []
  | n + 1 => ups F a n ++ [F (a + n)]
theorem ups_len (F : Int → ByteArray) (a : Int) : ∀ n, (ups F a n).length = n
  | 0 => rfl
  | n + 1 => by simp [ups, ups_len F a n]
theorem ups_get (F : Int → ByteArray) (a : Int) : ∀ n j : Nat, j < n → rdOf ByteArray.empty (ups F a n) j = F (a + j)
  | n + 1, j, h => by
    unfold ups rdOf
    rw [Int.toNat_natCast, List.getD_eq_getElem?_getD]
    by_cases hj : j < n
    · rw [List.getElem?_append_left (by rw [ups_len]; exact hj)]
      have := ups_get F a n j hj
      unfold rdOf at this
      rw [Int.toNat_natCast, List.getD_eq_getElem?_getD] at this
      exact this
    · have : j = n := by omega
      subst this
      rw [List.getElem?_append_right (by rw [ups_len]; exact Nat.le_refl _), ups_len]
      simp

theorem markStrs_loop (F : Int → ByteArray) (hF : ∀ x : Int, x ≤ 1099511627776 → Ev (fun k => laws_markText.f k x) (F x)) (l : List ByteArray) (hl : l.length ≤ 4194304) (a : Int) (h0 : 0 ≤ a) (h1 : a ≤ 1000000000) : ∀ d i : Nat, i + d = l.length →
    Ev (fun k => laws_markStringS.l0 k (ups F a i ++ l.drop i) (a + i) i) (a + l.length, ups F a l.length) := by
  intro d
  induction d with
  | zero =>
    intro i hi
    obtain rfl : i = l.length := by omega
    refine Ev.succ ?_
    have : (ups F a l.length ++ l.drop l.length).length = l.length := by simp [ups_len]
    simp only [laws_markStringS.l0, this, if_neg (show ¬ (l.length : Int) < (l.length : Int) by omega)]
    exact Ev.done (by simp)
  | succ d ih =>
    intro i hi
    have hnext := ih (i + 1) (by omega)
    have hlen : (ups F a i ++ l.drop i).length = l.length := by simp [ups_len]; omega
    have hset : (ups F a i ++ l.drop i).set i (F (a + i)) = ups F a (i + 1) ++ l.drop (i + 1) := by
      rw [List.drop_eq_getElem_cons (by omega : i < l.length), List.set_append_right _ _ (by rw [ups_len]; exact Nat.le_refl _), ups_len, Nat.sub_self, List.set_cons_zero, ups, List.append_assoc]
      rfl
    have b1 : (i : Int) < (l.length : Int) := by omega
    have b2 : (0 : Int) ≤ (i : Int) := by omega
    have ht := hF (a + i) (by omega)
    have f3 : wrap64 ((i : Int) + 1) = (i : Int) + 1 := w64 (by omega) (by omega)
    have f4 : wrap64 (a + (i : Int) + 1) = a + ((i + 1 : Nat) : Int) := by rw [w64 (by omega) (by omega)]; push_cast; omega
    refine Ev.succ ?_
    simp only [laws_markStringS.l0, hlen, if_pos b1]
    refine Ev.bind ht ?_
    simp only [if_pos b2, f3, f4, Int.toNat_natCast, hset]
    exact hnext
theorem markStrs_ev (F : Int → ByteArray) (hF : ∀ x : Int, x ≤ 1099511627776 → Ev (fun k => laws_markText.f k x) (F x)) (l : List ByteArray) (hl : l.length ≤ 4194304) (a : Int) (h0 : 0 ≤ a) (h1 : a ≤ 1000000000) : Ev (fun k => laws_markStringS.f k l a) (a + l.length, ups F a l.length) := by
  have := markStrs_loop F hF l hl a h0 h1 l.length 0 (Nat.zero_add _)
  simpa [ups, laws_markStringS.f] using this

theorem heldStrs_loop (F : Int → ByteArray) (hF : ∀ x : Int, x ≤ 1099511627776 → Ev (fun k => laws_markText.f k x) (F x)) (n : Nat) (hl : n ≤ 4194304) (a : Int) (h0 : 0 ≤ a) (h1 : a ≤ 1000000000) : ∀ d i : Nat, i + d = n →
    Ev (fun k => laws_heldStringS.l0 k (ups F a n) (a + i) i) (a + n) := by
  intro d
  induction d with
  | zero =>
    intro i hi
    obtain rfl : i = n := by omega
    refine Ev.succ ?_
    simp only [laws_heldStringS.l0, ups_len, if_neg (show ¬ (i : Int) < (i : Int) by omega)]
    exact Ev.now _
  | succ d ih =>
    intro i hi
    have hnext := ih (i + 1) (by omega)
    have b1 : (i : Int) < (n : Int) := by omega
    have b2 : (0 : Int) ≤ (i : Int) := by omega
    have ht := hF (a + i) (by omega)
    have f3 : wrap64 ((i : Int) + 1) = (i : Int) + 1 := w64 (by omega) (by omega)
    have f4 : wrap64 (a + (i : Int) + 1) = a + ((i + 1 : Nat) : Int) := by rw [w64 (by omega) (by omega)]; push_cast; omega
    refine Ev.succ ?_
    simp only [laws_heldStringS.l0, ups_len, if_pos b1, if_pos b2]
    refine Ev.bind ht ?_
    simp only [f3, f4, ups_get F a n i (by omega), if_true]
    exact hnext
theorem heldStrs_ev (F : Int → ByteArray) (hF : ∀ x : Int, x ≤ 1099511627776 → Ev (fun k => laws_markText.f k x) (F x)) (n : Nat) (hl : n ≤ 4194304) (a : Int) (h0 : 0 ≤ a) (h1 : a ≤ 1000000000) : Ev (fun k => laws_heldStringS.f k (ups F a n) a) (a + n) := by
  have := heldStrs_loop F hF n hl a h0 h1 n 0 (Nat.zero_add _)
  simpa [laws_heldStringS.f] using this

end Go.Proofs.Ytndlepcfbbfegaa.Br
