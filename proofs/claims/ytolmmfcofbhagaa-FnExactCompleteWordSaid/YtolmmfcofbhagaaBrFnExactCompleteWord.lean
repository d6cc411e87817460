/- What the law FnExactCompleteWord leans on: plain facts, and what the printed functions that it reaches come to; for all arguments that the facts name. -/
import Derived.Test.YtolmmfcofbhagaaPr16
import Derived.Test.YtolmmfcofbhagaaPr25
import Derived.Test.YtolmmfcofbhagaaPr45
import Derived.Test.YtolmmfcofbhagaaPr66
import Derived.Test.YtolmmfcofbhagaaPr119
import Derived.Test.YtolmmfcofbhagaaPr122
import Derived.Test.YtolmmfcofbhagaaPr134
import Derived.Test.YtolmmfcofbhagaaPr135
namespace Go.Proofs.Ytolmmfcofbhagaa.Th

def isC (b : Int) : Bool := b == 40 || b == 91
def isR (b : Int) : Bool := b == 41 || b == 93

structure St where
  p : List Int
  r : List Int
  c : List Int
  d : List Int
  q : List Int

def top (c : List Int) : Int := c.getLast?.getD (-1)

def step (s : St) (i b : Int) : St :=
  if isR b = true then
    if s.c = [] then ⟨s.p ++ [-2], s.r ++ [i], [], s.d ++ [0], s.q ++ [-1]⟩
    else ⟨s.p.set (top s.c).toNat i ++ [top s.c], s.r, s.c.dropLast, s.d ++ [(s.c.dropLast.length : Int)], s.q ++ [top s.c.dropLast]⟩
  else if isC b = true then ⟨s.p ++ [-2], s.r, s.c ++ [i], s.d ++ [(s.c.length : Int) + 1], s.q ++ [top s.c]⟩
  else ⟨s.p ++ [-1], s.r, s.c, s.d ++ [(s.c.length : Int)], s.q ++ [top s.c]⟩

def st (b : Int → Int) : Nat → St
  | 0 => ⟨[], [], [], [0], []⟩
  | n + 1 => step (st b n) n (b n)

theorem isR_notC {b : Int} (h : isR b = true) : isC b = false := by
  unfold isR at h; unfold isC
  simp at h ⊢
  omega

structure Basic (s : St) (n : Nat) : Prop where
  lp : s.p.length = n
  lq : s.q.length = n
  ld : s.d.length = n + 1
  lr : s.r.length ≤ n
  lc : s.c.length ≤ n
  hc : ∀ x ∈ s.c, 0 ≤ x ∧ x < n
  hr : ∀ x ∈ s.r, 0 ≤ x ∧ x < n

theorem top_mem {c : List Int} (h : c ≠ []) : top c ∈ c := by
  unfold top
  rw [List.getLast?_eq_some_getLast h]
  exact List.getLast_mem h

theorem basic (b : Int → Int) : ∀ n, Basic (st b n) n
  | 0 => by constructor <;> simp [st]
  | n + 1 => by
    have ih := basic b n
    obtain ⟨h1, h2, h3, h4, h5, h6, h7⟩ := ih
    unfold st step
    split
    · split
      · constructor <;> simp_all
        · intro x hx; rcases hx with hx | hx
          · have := h7 x hx; omega
          · omega
      · rename_i hne
        have hd : ∀ x ∈ (st b n).c.dropLast, x ∈ (st b n).c := fun x hx => List.dropLast_subset _ hx
        constructor
        · simp; exact h1
        · simp; exact h2
        · simp; exact h3
        · simp; omega
        · simp; omega
        · intro x hx; have := h6 x (hd x hx); constructor <;> omega
        · intro x hx; have := h7 x hx; constructor <;> omega
    · split
      · constructor
        · simp; exact h1
        · simp; exact h2
        · simp; exact h3
        · simp; omega
        · simp; omega
        · intro x hx
          rcases List.mem_append.1 hx with hx | hx
          · have := h6 x hx; constructor <;> omega
          · simp at hx; omega
        · intro x hx; have := h7 x hx; constructor <;> omega
      · constructor
        · simp; exact h1
        · simp; exact h2
        · simp; exact h3
        · simp; omega
        · simp; omega
        · intro x hx; have := h6 x hx; constructor <;> omega
        · intro x hx; have := h7 x hx; constructor <;> omega


def g (l : List Int) (j : Nat) : Int := l.getD j 0

theorem g_append_left {l m : List Int} {j : Nat} (h : j < l.length) : g (l ++ m) j = g l j := by
  unfold g; simp [List.getD_eq_getElem?_getD, List.getElem?_append_left h]
theorem g_append_end {l : List Int} {x : Int} {j : Nat} (h : j = l.length) : g (l ++ [x]) j = x := by
  subst h; unfold g; simp [List.getD_eq_getElem?_getD]
theorem g_set {l : List Int} {t j : Nat} {x : Int} : g (l.set t x) j = if t = j ∧ j < l.length then x else g l j := by
  unfold g
  simp only [List.getD_eq_getElem?_getD, List.getElem?_set]
  by_cases h : t = j
  · subst h
    by_cases h2 : t < l.length
    · simp [h2]
    · simp [h2]
  · simp [h]

structure Inv (b : Int → Int) (s : St) (n : Nat) : Prop where
  ba : Basic s n
  inc : (s.r ++ s.c).Pairwise (· < ·)
  m2 : ∀ j : Nat, j < n → (g s.p j = -2 ↔ (j : Int) ∈ s.r ∨ (j : Int) ∈ s.c)
  br : ∀ j : Nat, (j : Int) ∈ s.r → isR (b j) = true
  bc : ∀ j : Nat, (j : Int) ∈ s.c → isC (b j) = true
  m1 : ∀ j : Nat, j < n → (g s.p j = -1 ↔ isC (b j) = false ∧ isR (b j) = false)
  pos : ∀ j : Nat, j < n → 0 ≤ g s.p j → g s.p j < n ∧ g s.p (g s.p j).toNat = j ∧ ((isC (b j) = true ∧ (j : Int) < g s.p j) ∨ (isR (b j) = true ∧ g s.p j < j))
  lo : ∀ j : Nat, j < n → -2 ≤ g s.p j

theorem pw_mem {l : List Int} {x : Int} (h : (l ++ [x]).Pairwise (· < ·)) : ∀ y ∈ l, y < x := by
  intro y hy
  exact (List.pairwise_append.1 h).2.2 y hy x (by simp)

theorem dropLast_top {c : List Int} (h : c ≠ []) : c.dropLast ++ [top c] = c := by
  unfold top
  rw [List.getLast?_eq_some_getLast h]
  exact List.dropLast_concat_getLast h

theorem inv (b : Int → Int) : ∀ n, Inv b (st b n) n
  | 0 => by
    constructor <;> first | exact basic b 0 | simp [st]
  | n + 1 => by
    have ih := inv b n
    have hba := basic b (n + 1)
    have hst : st b (n + 1) = step (st b n) n (b n) := rfl
    obtain ⟨B, inc, m2, br, bc, m1, pos, lo⟩ := ih
    obtain ⟨lp, lq, ld, lr, lc, hc, hr⟩ := B
    generalize hs : st b n = s at *
    rw [hst] at hba ⊢
    by_cases hR : isR (b n) = true
    · have hC := isR_notC hR
      by_cases he : s.c = []
      · have e : step s n (b n) = ⟨s.p ++ [-2], s.r ++ [(n : Int)], [], s.d ++ [0], s.q ++ [-1]⟩ := by simp [step, hR, he]
        rw [e] at hba ⊢
        rw [he, List.append_nil] at inc
        have gl : ∀ j : Nat, j < n → g (s.p ++ [-2]) j = g s.p j := fun j hj => g_append_left (by omega)
        have gn : g (s.p ++ [-2]) n = -2 := g_append_end lp.symm
        refine ⟨hba, ?_, ?_, ?_, ?_, ?_, ?_, ?_⟩
        · simp only [List.append_nil]
          refine List.pairwise_append.2 ⟨inc, by simp, ?_⟩
          intro a ha x hx; simp at hx; subst hx; exact (hr a ha).2
        · intro j hj
          by_cases hjn : j = n
          · subst hjn; simp [gn]
          · have hj' : j < n := by omega
            rw [gl j hj', m2 j hj', he]
            simp; omega
        · intro j hj
          rcases List.mem_append.1 hj with h | h
          · exact br j h
          · simp at h; rw [show j = n by omega]; exact hR
        · intro j hj; simp at hj
        · intro j hj
          by_cases hjn : j = n
          · subst hjn; simp [gn, hR]
          · have hj' : j < n := by omega
            rw [gl j hj']; exact m1 j hj'
        · intro j hj h0
          by_cases hjn : j = n
          · subst hjn; rw [gn] at h0; omega
          · have hj' : j < n := by omega
            rw [gl j hj'] at h0 ⊢
            obtain ⟨p1, p2, p3⟩ := pos j hj' h0
            refine ⟨by omega, ?_, p3⟩
            rw [gl _ (by omega)]; exact p2
        · intro j hj
          by_cases hjn : j = n
          · subst hjn; rw [gn]; omega
          · have hj' : j < n := by omega
            rw [gl j hj']; exact lo j hj'
      · have e : step s n (b n) = ⟨s.p.set (top s.c).toNat n ++ [top s.c], s.r, s.c.dropLast, s.d ++ [(s.c.dropLast.length : Int)], s.q ++ [top s.c.dropLast]⟩ := by simp [step, hR, he]
        rw [e] at hba ⊢
        have ht := top_mem he
        obtain ⟨t0, t1⟩ := hc _ ht
        obtain ⟨t, htt⟩ := Int.eq_ofNat_of_zero_le t0
        have hdt := dropLast_top he
        have htn : t < n := by omega
        have ht2 : g s.p t = -2 := (m2 t htn).2 (Or.inr (htt ▸ ht))
        have htC : isC (b t) = true := bc t (htt ▸ ht)
        rw [htt] at hdt ⊢
        simp only [Int.toNat_natCast]
        have inc' : (s.r ++ s.c.dropLast ++ [(t : Int)]).Pairwise (· < ·) := by rw [List.append_assoc, hdt]; exact inc
        have hlt := pw_mem inc'
        have gn : g (s.p.set t n ++ [(t : Int)]) n = t := g_append_end (by simp [lp])
        have gl : ∀ j : Nat, j < n → g (s.p.set t n ++ [(t : Int)]) j = if t = j then (n : Int) else g s.p j := by
          intro j hj
          rw [g_append_left (by simp; omega), g_set]
          by_cases h : t = j
          · simp [h]; omega
          · simp [h]
        have hcm : ∀ j : Nat, (j : Int) ∈ s.c ↔ (j : Int) ∈ s.c.dropLast ∨ j = t := by
          intro j
          conv => lhs; rw [← hdt]
          rw [List.mem_append, List.mem_singleton, Int.ofNat_inj]
        refine ⟨by rw [htt] at hba; simpa using hba, ?_, ?_, ?_, ?_, ?_, ?_, ?_⟩
        · exact (List.pairwise_append.1 inc').1
        · intro j hj
          by_cases hjn : j = n
          · subst hjn
            rw [gn]
            constructor
            · intro h; omega
            · intro h
              rcases h with h | h
              · have := hr _ h; omega
              · have := hc _ ((hcm j).2 (Or.inl h)); omega
          · have hj' : j < n := by omega
            rw [gl j hj']
            by_cases hjt : t = j
            · subst hjt
              simp only [if_true]
              constructor
              · intro h; omega
              · intro h
                rcases h with h | h
                · have := hlt t (by simp [h]); omega
                · have := hlt t (by simp [h]); omega
            · rw [if_neg hjt, m2 j hj', hcm j]
              constructor
              · rintro (h | h | h)
                · exact Or.inl h
                · exact Or.inr h
                · omega
              · rintro (h | h)
                · exact Or.inl h
                · exact Or.inr (Or.inl h)
        · exact br
        · intro j hj; exact bc j ((hcm j).2 (Or.inl hj))
        · intro j hj
          by_cases hjn : j = n
          · subst hjn; rw [gn]; simp [hR]
          · have hj' : j < n := by omega
            rw [gl j hj']
            by_cases hjt : t = j
            · subst hjt; simp [htC]
            · rw [if_neg hjt]; exact m1 j hj'
        · intro j hj h0
          by_cases hjn : j = n
          · subst hjn
            rw [gn]
            refine ⟨by omega, ?_, Or.inr ⟨hR, by omega⟩⟩
            rw [Int.toNat_natCast, gl t htn, if_pos rfl]
          · have hj' : j < n := by omega
            rw [gl j hj'] at h0 ⊢
            by_cases hjt : t = j
            · subst hjt
              simp only [if_true]
              refine ⟨by omega, ?_, Or.inl ⟨htC, by omega⟩⟩
              rw [Int.toNat_natCast, gn]
            · rw [if_neg hjt] at h0 ⊢
              obtain ⟨p1, p2, p3⟩ := pos j hj' h0
              refine ⟨by omega, ?_, p3⟩
              rw [gl _ (by omega), if_neg]
              · exact p2
              · intro h; rw [← h, ht2] at p2; omega
        · intro j hj
          by_cases hjn : j = n
          · subst hjn; rw [gn]; omega
          · have hj' : j < n := by omega
            rw [gl j hj']
            split
            · omega
            · exact lo j hj'
    · have hR' : isR (b n) = false := by simpa using hR
      by_cases hC : isC (b n) = true
      · have e : step s n (b n) = ⟨s.p ++ [-2], s.r, s.c ++ [(n : Int)], s.d ++ [(s.c.length : Int) + 1], s.q ++ [top s.c]⟩ := by simp [step, hR, hC]
        rw [e] at hba ⊢
        have gl : ∀ j : Nat, j < n → g (s.p ++ [-2]) j = g s.p j := fun j hj => g_append_left (by omega)
        have gn : g (s.p ++ [-2]) n = -2 := g_append_end lp.symm
        refine ⟨hba, ?_, ?_, ?_, ?_, ?_, ?_, ?_⟩
        · rw [← List.append_assoc]
          refine List.pairwise_append.2 ⟨inc, by simp, ?_⟩
          intro a ha x hx; simp at hx; subst hx
          rcases List.mem_append.1 ha with h | h
          · exact (hr a h).2
          · exact (hc a h).2
        · intro j hj
          by_cases hjn : j = n
          · subst hjn; simp [gn]
          · have hj' : j < n := by omega
            rw [gl j hj', m2 j hj', List.mem_append, List.mem_singleton, Int.ofNat_inj]
            constructor
            · rintro (h | h)
              · exact Or.inl h
              · exact Or.inr (Or.inl h)
            · rintro (h | h | h)
              · exact Or.inl h
              · exact Or.inr h
              · omega
        · exact br
        · intro j hj
          rcases List.mem_append.1 hj with h | h
          · exact bc j h
          · simp at h; rw [show j = n by omega]; exact hC
        · intro j hj
          by_cases hjn : j = n
          · subst hjn; simp [gn, hC]
          · have hj' : j < n := by omega
            rw [gl j hj']; exact m1 j hj'
        · intro j hj h0
          by_cases hjn : j = n
          · subst hjn; rw [gn] at h0; omega
          · have hj' : j < n := by omega
            rw [gl j hj'] at h0 ⊢
            obtain ⟨p1, p2, p3⟩ := pos j hj' h0
            refine ⟨by omega, ?_, p3⟩
            rw [gl _ (by omega)]; exact p2
        · intro j hj
          by_cases hjn : j = n
          · subst hjn; rw [gn]; omega
          · have hj' : j < n := by omega
            rw [gl j hj']; exact lo j hj'
      · have hC' : isC (b n) = false := by simpa using hC
        have e : step s n (b n) = ⟨s.p ++ [-1], s.r, s.c, s.d ++ [(s.c.length : Int)], s.q ++ [top s.c]⟩ := by simp [step, hR, hC]
        rw [e] at hba ⊢
        have gl : ∀ j : Nat, j < n → g (s.p ++ [-1]) j = g s.p j := fun j hj => g_append_left (by omega)
        have gn : g (s.p ++ [-1]) n = -1 := g_append_end lp.symm
        refine ⟨hba, inc, ?_, br, bc, ?_, ?_, ?_⟩
        · intro j hj
          by_cases hjn : j = n
          · subst hjn; rw [gn]
            constructor
            · intro h; omega
            · rintro (h | h)
              · have := hr _ h; omega
              · have := hc _ h; omega
          · have hj' : j < n := by omega
            rw [gl j hj', m2 j hj']
        · intro j hj
          by_cases hjn : j = n
          · subst hjn; simp [gn, hC', hR']
          · have hj' : j < n := by omega
            rw [gl j hj']; exact m1 j hj'
        · intro j hj h0
          by_cases hjn : j = n
          · subst hjn; rw [gn] at h0; omega
          · have hj' : j < n := by omega
            rw [gl j hj'] at h0 ⊢
            obtain ⟨p1, p2, p3⟩ := pos j hj' h0
            refine ⟨by omega, ?_, p3⟩
            rw [gl _ (by omega)]; exact p2
        · intro j hj
          by_cases hjn : j = n
          · subst hjn; rw [gn]; omega
          · have hj' : j < n := by omega
            rw [gl j hj']; exact lo j hj'

/-- Two increasing lists with the same members. -/
theorem inc_ext : ∀ {l m : List Int}, l.Pairwise (· < ·) → m.Pairwise (· < ·) → (∀ x, x ∈ l ↔ x ∈ m) → l = m
  | [], [], _, _, _ => rfl
  | [], y :: m, _, _, h => by have := (h y).2 (by simp); simp at this
  | x :: l, [], _, _, h => by have := (h x).1 (by simp); simp at this
  | x :: l, y :: m, hl, hm, h => by
    obtain ⟨a1, a2⟩ := List.pairwise_cons.1 hl
    obtain ⟨b1, b2⟩ := List.pairwise_cons.1 hm
    have e : x = y := by
      rcases List.mem_cons.1 ((h x).1 (by simp)) with r | r
      · exact r
      · rcases List.mem_cons.1 ((h y).2 (by simp)) with r2 | r2
        · exact r2.symm
        · have := b1 x r; have := a1 y r2; omega
    subst e
    congr 1
    refine inc_ext a2 b2 fun z => ?_
    have hz := h z
    constructor
    · intro hz2
      rcases List.mem_cons.1 (hz.1 (List.mem_cons_of_mem _ hz2)) with r | r
      · have := a1 z hz2; omega
      · exact r
    · intro hz2
      rcases List.mem_cons.1 (hz.2 (List.mem_cons_of_mem _ hz2)) with r | r
      · have := b1 z hz2; omega
      · exact r

/-- The places up to i for which a test says yes, in order. -/
def sel (f : Nat → Bool) : Nat → List Int
  | 0 => []
  | i + 1 => if f i then sel f i ++ [(i : Int)] else sel f i

theorem mem_sel {f : Nat → Bool} : ∀ {i : Nat} {x : Int}, x ∈ sel f i ↔ ∃ j : Nat, j < i ∧ x = j ∧ f j = true
  | 0, x => by simp [sel]
  | i + 1, x => by
    unfold sel
    split
    · rename_i h
      rw [List.mem_append, mem_sel (i := i)]
      constructor
      · rintro (⟨j, h1, h2, h3⟩ | hx)
        · exact ⟨j, by omega, h2, h3⟩
        · simp at hx; exact ⟨i, by omega, hx, h⟩
      · rintro ⟨j, h1, h2, h3⟩
        by_cases hj : j = i
        · subst hj; right; simp [h2]
        · left; exact ⟨j, by omega, h2, h3⟩
    · rename_i h
      rw [mem_sel (i := i)]
      constructor
      · rintro ⟨j, h1, h2, h3⟩; exact ⟨j, by omega, h2, h3⟩
      · rintro ⟨j, h1, h2, h3⟩
        by_cases hj : j = i
        · subst hj; exact absurd h3 h
        · exact ⟨j, by omega, h2, h3⟩

theorem sel_inc {f : Nat → Bool} : ∀ i, (sel f i).Pairwise (· < ·)
  | 0 => by simp [sel]
  | i + 1 => by
    unfold sel
    split
    · refine List.pairwise_append.2 ⟨sel_inc i, by simp, ?_⟩
      intro a ha x hx
      obtain ⟨j, h1, h2, _⟩ := mem_sel.1 ha
      simp at hx; omega
    · exact sel_inc i

theorem sel_len {f : Nat → Bool} : ∀ i, (sel f i).length ≤ i
  | 0 => by simp [sel]
  | i + 1 => by
    have := sel_len (f := f) i
    unfold sel
    split
    · simp; omega
    · omega

theorem pend_all (b : Int → Int) (n : Nat) : sel (fun j => g (st b n).p j == -2) n = (st b n).r ++ (st b n).c := by
  have I := inv b n
  refine inc_ext (sel_inc n) I.inc fun x => ?_
  rw [mem_sel, List.mem_append]
  constructor
  · rintro ⟨j, h1, rfl, h3⟩
    exact (I.m2 j h1).1 (by simpa using h3)
  · intro h
    have hx : 0 ≤ x ∧ x < n := by
      rcases h with h | h
      · exact I.ba.hr x h
      · exact I.ba.hc x h
    obtain ⟨j, rfl⟩ := Int.eq_ofNat_of_zero_le hx.1
    refine ⟨j, by omega, rfl, ?_⟩
    have := (I.m2 j (by omega)).2 h
    simpa using this

end Go.Proofs.Ytolmmfcofbhagaa.Th
namespace Go.Proofs.Ytolmmfcofbhagaa.Br
open Go.RowKit Go.Proofs.Ytolmmfcofbhagaa.R Go.Proofs.YtolmmfcofbhagaaW.PrintWords Go.Proofs.YtolmmfcofbhagaaW.PrintLast Go.Proofs.YtolmmfcofbhagaaW.PrintMore Go.Proofs.Ytolmmfcofbhagaa.Th
set_option linter.unusedVariables false
set_option linter.unusedSimpArgs false
theorem Ev.succ {α : Type} {g : Nat → Option α} {r : α} (h : Ev (fun k => g (k + 1)) r) : Ev g r := by
  obtain ⟨K, hK⟩ := h
  refine ⟨K + 1, fun k hk => ?_⟩
  obtain ⟨m, rfl⟩ : ∃ m, k = m + 1 := ⟨k - 1, by omega⟩
  exact hK m (by omega)
theorem Ev.done {α : Type} {r s : α} (h : r = s) : Ev (fun _ : Nat => some r) s := h ▸ Ev.now r
theorem w64 {x : Int} (h0 : -9223372036854775808 ≤ x) (h1 : x ≤ 9223372036854775807) : wrap64 x = x := by unfold wrap64; omega

/-- The number of a symbol, -1 if it is none. -/
def sym (b : Int) : Int := if b = 40 then 0 else if b = 91 then 1 else if b = 41 then 2 else if b = 93 then 3 else if b = 97 then 4 else if b = 98 then 5 else -1

def allFrom (f : Nat → Bool) : Nat → Nat → Bool
  | 0, _ => true
  | d + 1, i => f i && allFrom f d (i + 1)

/-- Is a text a word. -/
def okw (a : ByteArray) : Bool := allFrom (fun j => decide (0 ≤ sym (bt a j))) a.size 0 && decide ((a.size : Int) ≤ 60)

theorem bs0 : bt (⟨#[40, 91, 41, 93, 97, 98]⟩ : ByteArray) 0 = 40 := by decide
theorem bs1 : bt (⟨#[40, 91, 41, 93, 97, 98]⟩ : ByteArray) 1 = 91 := by decide
theorem bs2 : bt (⟨#[40, 91, 41, 93, 97, 98]⟩ : ByteArray) 2 = 41 := by decide
theorem bs3 : bt (⟨#[40, 91, 41, 93, 97, 98]⟩ : ByteArray) 3 = 93 := by decide
theorem bs4 : bt (⟨#[40, 91, 41, 93, 97, 98]⟩ : ByteArray) 4 = 97 := by decide
theorem bs5 : bt (⟨#[40, 91, 41, 93, 97, 98]⟩ : ByteArray) 5 = 98 := by decide

theorem symbol_ev (b : Int) : Ev (fun k => spec_l01Symbol.f k b) (sym b) := by
  unfold spec_l01Symbol.f sym
  have w1 : wrap64 (0 + 1) = 1 := by unfold wrap64; omega
  have w2 : wrap64 (1 + 1) = 2 := by unfold wrap64; omega
  have w3 : wrap64 (2 + 1) = 3 := by unfold wrap64; omega
  have w4 : wrap64 (3 + 1) = 4 := by unfold wrap64; omega
  have w5 : wrap64 (4 + 1) = 5 := by unfold wrap64; omega
  have w6 : wrap64 (5 + 1) = 6 := by unfold wrap64; omega
  refine Ev.succ ?_
  simp only [spec_l01Symbol.l0, bs0]
  by_cases h0 : b = 40
  · subst h0; exact Ev.done rfl
  rw [if_neg h0]
  simp only [if_neg (Ne.symm h0), w1]
  refine Ev.succ ?_
  simp only [spec_l01Symbol.l0, bs1]
  by_cases h0 : b = 91
  · subst h0; exact Ev.done rfl
  rw [if_neg h0]
  simp only [if_neg (Ne.symm h0), w2]
  refine Ev.succ ?_
  simp only [spec_l01Symbol.l0, bs2]
  by_cases h0 : b = 41
  · subst h0; exact Ev.done rfl
  rw [if_neg h0]
  simp only [if_neg (Ne.symm h0), w3]
  refine Ev.succ ?_
  simp only [spec_l01Symbol.l0, bs3]
  by_cases h0 : b = 93
  · subst h0; exact Ev.done rfl
  rw [if_neg h0]
  simp only [if_neg (Ne.symm h0), w4]
  refine Ev.succ ?_
  simp only [spec_l01Symbol.l0, bs4]
  by_cases h0 : b = 97
  · subst h0; exact Ev.done rfl
  rw [if_neg h0]
  simp only [if_neg (Ne.symm h0), w5]
  refine Ev.succ ?_
  simp only [spec_l01Symbol.l0, bs5]
  by_cases h0 : b = 98
  · subst h0; exact Ev.done rfl
  rw [if_neg h0]
  simp only [if_neg (Ne.symm h0), w6]
  refine Ev.succ ?_
  simp only [spec_l01Symbol.l0]
  exact Ev.done rfl

theorem index_eq {b : Int} (h0 : 0 ≤ b) (h1 : b ≤ 255) : strings_IndexByte.f (⟨#[40, 91, 41, 93, 97, 98]⟩ : ByteArray) b = some (sym b) := by
  obtain ⟨n, rfl⟩ := Int.eq_ofNat_of_zero_le h0
  have hn : n < 256 := by omega
  clear h0 h1
  unfold strings_IndexByte.f
  congr 1
  have key : ∀ n : Fin 256, Lib.indexByte (⟨#[40, 91, 41, 93, 97, 98]⟩ : ByteArray).data.toList ((n.val : Int).toNat.toUInt8) = sym (n.val : Int) := by decide +kernel
  exact key ⟨n, hn⟩

theorem specOk_loop (a : ByteArray) (hn : a.size ≤ 1048576) : ∀ d i : Nat, i + d = a.size →
    Ev (fun k => spec_l01Ok.l0 k a i) (allFrom (fun j => decide (0 ≤ sym (bt a j))) d i && decide ((a.size : Int) ≤ 60)) := by
  intro d
  induction d with
  | zero =>
    intro i hi
    refine Ev.succ ?_
    simp only [spec_l01Ok.l0, if_neg (show ¬ (i : Int) < (a.size : Int) by omega), allFrom, Bool.true_and]
    exact Ev.done rfl
  | succ d ih =>
    intro i hi
    refine Ev.succ ?_
    simp only [spec_l01Ok.l0, if_pos (show (i : Int) < (a.size : Int) by omega), if_pos (show (0 : Int) ≤ (i : Int) by omega), allFrom]
    refine Ev.bind (symbol_ev _) ?_
    rw [w64 (by omega) (by omega)]
    by_cases h : sym (bt a i) < 0
    · simp only [if_pos h]
      exact Ev.done (by simp; omega)
    · simp only [if_neg h]
      have := ih (i + 1) (by omega)
      simpa [show 0 ≤ sym (bt a i) by omega] using this

theorem specOk_ev (a : ByteArray) (hn : a.size ≤ 1048576) : Ev (fun k => spec_l01Ok.f k a) (okw a) := specOk_loop a hn a.size 0 (by omega)

theorem valid_loop (a : ByteArray) (hn : a.size ≤ 1048576) : ∀ d i : Nat, i + d = a.size →
    Ev (fun k => impl_ValidWord.l0 k a a.size i) (allFrom (fun j => decide (0 ≤ sym (bt a j))) d i && decide ((a.size : Int) ≤ 60)) := by
  intro d
  induction d with
  | zero =>
    intro i hi
    refine Ev.succ ?_
    simp only [impl_ValidWord.l0, if_neg (show ¬ (i : Int) < (a.size : Int) by omega), allFrom, Bool.true_and]
    exact Ev.done rfl
  | succ d ih =>
    intro i hi
    refine Ev.succ ?_
    have hb := bt_range a i
    simp only [impl_ValidWord.l0, if_pos (show (i : Int) < (a.size : Int) by omega), if_pos (show (0 : Int) ≤ (i : Int) by omega), allFrom, index_eq hb.1 hb.2, Option.bind_some]
    rw [w64 (by omega) (by omega)]
    by_cases h : sym (bt a i) < 0
    · simp only [if_pos h]
      exact Ev.done (by simp; omega)
    · simp only [if_neg h]
      have := ih (i + 1) (by omega)
      simpa [show 0 ≤ sym (bt a i) by omega] using this

theorem valid_ev (a : ByteArray) (hn : a.size ≤ 1048576) : Ev (fun k => impl_ValidWord.f k a) (okw a) := valid_loop a hn a.size 0 (by omega)

end Go.Proofs.Ytolmmfcofbhagaa.Br
namespace Go.Proofs.Ytolmmfcofbhagaa.Br
open Go.RowKit Go.Proofs.Ytolmmfcofbhagaa.R Go.Proofs.YtolmmfcofbhagaaW.PrintWords Go.Proofs.YtolmmfcofbhagaaW.PrintLast Go.Proofs.YtolmmfcofbhagaaW.PrintMore Go.Proofs.Ytolmmfcofbhagaa.Th
set_option linter.unusedVariables false
set_option linter.unusedSimpArgs false
theorem allFrom_iff {f : Nat → Bool} : ∀ {d i : Nat}, allFrom f d i = true ↔ ∀ j, i ≤ j → j < i + d → f j = true
  | 0, i => by simp [allFrom]; omega
  | d + 1, i => by
    unfold allFrom
    rw [Bool.and_eq_true, allFrom_iff]
    constructor
    · rintro ⟨h1, h2⟩ j hj hj2
      by_cases h : j = i
      · subst h; exact h1
      · exact h2 j (by omega) (by omega)
    · intro h
      exact ⟨h i (by omega) (by omega), fun j h1 h2 => h j (by omega) (by omega)⟩

theorem okw_iff {a : ByteArray} : okw a = true ↔ (∀ j : Nat, j < a.size → 0 ≤ sym (bt a j)) ∧ a.size ≤ 60 := by
  unfold okw
  rw [Bool.and_eq_true, allFrom_iff]
  simp
  intro _
  omega

theorem okw_size {a : ByteArray} (h : okw a = true) : a.size ≤ 60 := (okw_iff.1 h).2
theorem okw_sym {a : ByteArray} (h : okw a = true) {j : Nat} (hj : j < a.size) : 0 ≤ sym (bt a j) := (okw_iff.1 h).1 j hj

theorem bt_lt {a : ByteArray} {j : Nat} (h : j < a.size) : bt a j = (a[j].toNat : Int) := by
  unfold bt; simp [h]
theorem bt_ge {a : ByteArray} {j : Nat} (h : a.size ≤ j) : bt a j = 0 := by
  unfold bt; simp; omega

theorem bt_append (a b : ByteArray) (j : Nat) : bt (a ++ b) j = if j < a.size then bt a j else bt b ((j - a.size : Nat) : Int) := by
  by_cases h : j < a.size
  · rw [if_pos h, bt_lt h, bt_lt (by rw [ByteArray.size_append]; omega), ByteArray.getElem_append_left h]
  · rw [if_neg h]
    by_cases h2 : j < a.size + b.size
    · rw [bt_lt (by rw [ByteArray.size_append]; exact h2), bt_lt (by omega), ByteArray.getElem_append_right (by omega)]
    · rw [bt_ge (by rw [ByteArray.size_append]; omega), bt_ge (by omega)]

theorem bt_extract (a : ByteArray) {i e j : Nat} (he : e ≤ a.size) (hj : j < e - i) : bt (a.extract i e) j = bt a ((i + j : Nat) : Int) := by
  rw [bt_lt (by rw [ByteArray.size_extract]; omega), bt_lt (by omega), ByteArray.getElem_extract]

/-- Two texts with the same bytes. -/
theorem ba_ext {a b : ByteArray} (hs : a.size = b.size) (h : ∀ j : Nat, j < a.size → bt a j = bt b j) : a = b := by
  apply ByteArray.ext
  apply Array.ext
  · exact hs
  · intro i h1 h2
    have h1' : i < a.size := h1
    have h2' : i < b.size := h2
    have e := h i h1
    rw [bt_lt h1', bt_lt h2'] at e
    have : a[i].toNat = b[i].toNat := by exact_mod_cast e
    exact UInt8.toNat_inj.1 this

end Go.Proofs.Ytolmmfcofbhagaa.Br
namespace Go.Proofs.Ytolmmfcofbhagaa.Br
open Go.RowKit Go.Proofs.Ytolmmfcofbhagaa.R Go.Proofs.YtolmmfcofbhagaaW.PrintWords Go.Proofs.YtolmmfcofbhagaaW.PrintLast Go.Proofs.YtolmmfcofbhagaaW.PrintMore Go.Proofs.Ytolmmfcofbhagaa.Th
set_option linter.unusedVariables false
set_option linter.unusedSimpArgs false
theorem isReturn_eq (b : Int) : impl_isReturn.f b = some (isR b) := by
  unfold impl_isReturn.f isR
  by_cases h : b = 41 <;> simp [h]
theorem isCall_eq (b : Int) : impl_isCall.f b = some (isC b) := by
  unfold impl_isCall.f isC
  by_cases h : b = 40 <;> simp [h]
theorem sReturn_eq (b : Int) : spec_l01Return.f b = some (isR b) := by
  unfold spec_l01Return.f isR
  by_cases h : b = 41 <;> simp [h]
theorem sCall_eq (b : Int) : spec_l01Call.f b = some (isC b) := by
  unfold spec_l01Call.f isC
  by_cases h : b = 40 <;> simp [h]

theorem rd_last {c : List Int} (h : c ≠ []) : rd c ((c.length : Int) - 1) = top c := by
  unfold rd top
  have : 0 < c.length := List.length_pos_iff.2 h
  rw [List.getLast?_eq_getElem?, List.getD_eq_getElem?_getD, show ((c.length : Int) - 1).toNat = c.length - 1 by omega, List.getElem?_eq_getElem (by omega)]
  rfl

theorem top_nil {c : List Int} (h : c = []) : top c = -1 := by subst h; rfl
theorem take_last {c : List Int} : c.take ((c.length : Int) - 1).toNat = c.dropLast := by
  rw [List.dropLast_eq_take, show ((c.length : Int) - 1).toNat = c.length - 1 by omega]

/-- From the head of j2 on: the parent is told, a call is put on the stack, the rows grow. -/
theorem match_j2 (a : ByteArray) (hn : a.size ≤ 1048576) (i : Nat) (hi : i < a.size) (x6 : Int) (p r c d q : List Int) (R : List Int × List Int × List Int × List Int × List Int)
    (lp : p.length ≤ i) (lr : r.length ≤ i + 1) (lc : c.length ≤ i) (ld : d.length ≤ i + 1) (lq : q.length ≤ i)
    (h : if isC (bt a i) = true then Ev (fun k => impl_match.l0 k a a.size (i + 1 : Nat) (p ++ [-2]) r (c ++ [(i : Int)]) (d ++ [(c.length : Int) + 1]) (q ++ [top c])) R
         else Ev (fun k => impl_match.l0 k a a.size (i + 1 : Nat) (p ++ [x6]) r c (d ++ [(c.length : Int)]) (q ++ [top c])) R) :
    Ev (fun k => impl_match.j2 k a i i x6 a.size i p r c d q) R := by
  have j3 : Ev (fun k => impl_match.j3 k a i i x6 (top c) a.size i p r c d q) R := by
    refine Ev.succ ?_
    simp only [impl_match.j3, if_pos (show (0 : Int) ≤ (i : Int) by omega), if_pos (show (i : Int) < (a.size : Int) by omega), isCall_eq, Option.bind_some]
    have j4 : ∀ (x : Int) (c2 : List Int), c2.length ≤ i + 1 → Ev (fun k => impl_match.l0 k a a.size (i + 1 : Nat) (p ++ [x]) r c2 (d ++ [(c2.length : Int)]) (q ++ [top c])) R → Ev (fun k => impl_match.j4 k a x (top c) a.size i p r c2 d q) R := by
      intro x c2 l2 h2
      refine Ev.succ ?_
      simp only [impl_match.j4, Option.bind_some, impl_size_int64.f, List.length_cons, List.length_nil]
      rw [w64 (by omega) (by omega)]
      simp only [if_pos (show p.length + (0 + 1) < 17592186044416 by omega), if_pos (show q.length + (0 + 1) < 17592186044416 by omega), if_pos (show d.length + (0 + 1) < 17592186044416 by omega)]
      exact h2
    by_cases hC : isC (bt a i) = true
    · simp only [hC, if_true, List.length_cons, List.length_nil, if_pos (show c.length + (0 + 1) < 17592186044416 by omega)] at h ⊢
      refine j4 (-2) (c ++ [(i : Int)]) (by simp; omega) ?_
      simpa using h
    · simp only [if_neg hC] at h ⊢
      exact j4 x6 c (by omega) h
  refine Ev.succ ?_
  simp only [impl_match.j2]
  by_cases hc : c = []
  · simp only [if_neg (show ¬ (c.length : Int) > 0 by simp [hc])]
    rw [top_nil hc] at j3
    exact j3
  · have : 0 < c.length := List.length_pos_iff.2 hc
    rw [w64 (by omega) (by omega)]
    simp only [if_pos (show (c.length : Int) > 0 by omega), if_pos (show 0 ≤ (c.length : Int) - 1 by omega), if_pos (show (c.length : Int) - 1 < (c.length : Int) by omega), rd_last hc]
    exact j3

theorem match_loop (a : ByteArray) (hn : a.size ≤ 1048576) : ∀ d i : Nat, i + d = a.size →
    Ev (fun k => impl_match.l0 k a a.size i (st (bt a) i).p (st (bt a) i).r (st (bt a) i).c (st (bt a) i).d (st (bt a) i).q)
      ((st (bt a) a.size).p, (st (bt a) a.size).r, (st (bt a) a.size).c, (st (bt a) a.size).d, (st (bt a) a.size).q) := by
  intro d
  induction d with
  | zero =>
    intro i hi
    obtain rfl : i = a.size := by omega
    refine Ev.succ ?_
    simp only [impl_match.l0, if_neg (show ¬ (a.size : Int) < (a.size : Int) by omega)]
    exact Ev.now _
  | succ d ih =>
    intro i hi
    have B := basic (bt a) i
    have hnext := ih (i + 1) (by omega)
    have hst : st (bt a) (i + 1) = Th.step (st (bt a) i) i (bt a i) := rfl
    rw [hst] at hnext
    obtain ⟨lp, lq, ld, lr, lc, hc, hr⟩ := B
    generalize st (bt a) i = s at *
    refine Ev.succ ?_
    simp only [impl_match.l0, if_pos (show (i : Int) < (a.size : Int) by omega), if_pos (show (0 : Int) ≤ (i : Int) by omega), isReturn_eq, Option.bind_some]
    by_cases hR : isR (bt a i) = true
    · have hC := isR_notC hR
      simp only [hR, if_true]
      refine Ev.succ ?_
      simp only [impl_match.j1]
      by_cases he : s.c = []
      · simp only [he, List.length_nil, Int.ofNat_zero, Int.natCast_zero, BEq.rfl, if_true, Option.bind_some, List.length_cons]
        simp only [if_pos (show s.r.length + (0 + 1) < 17592186044416 by omega)]
        refine match_j2 a hn i (by omega) (-2) _ _ _ _ _ _ (by omega) (by simp; omega) (by simp) (by omega) (by omega) ?_
        rw [if_neg (by simp [hC])]
        simp only [Th.step, hR, if_true, he] at hnext
        exact hnext
      · have hl : 0 < s.c.length := List.length_pos_iff.2 he
        have ht := hc _ (top_mem he)
        have hz : ((s.c.length : Int) == 0) = false := by simp; omega
        simp only [hz, Bool.false_eq_true, if_false]
        rw [w64 (by omega) (by omega)]
        simp only [if_pos (show (0 : Int) ≤ (i : Int) by omega), if_pos (show (i : Int) < (a.size : Int) by omega), isReturn_eq, Option.bind_some, hR, if_true,
          if_pos (show 0 ≤ (s.c.length : Int) - 1 by omega), if_pos (show (s.c.length : Int) - 1 < (s.c.length : Int) by omega), rd_last he, if_pos ht.1, if_pos (show top s.c < (s.p.length : Int) by omega), if_pos (show (s.c.length : Int) - 1 ≤ (s.c.length : Int) by omega), take_last]
        refine match_j2 a hn i (by omega) _ _ _ _ _ _ _ (by simp; omega) (by omega) (by simp; omega) (by omega) (by omega) ?_
        rw [if_neg (by simp [hC])]
        simp only [Th.step, hR, if_true, if_neg he] at hnext
        exact hnext
    · have hR' : isR (bt a i) = false := by simpa using hR
      simp only [hR', Bool.false_eq_true, if_false]
      refine Ev.succ ?_
      simp only [impl_match.j1, Bool.false_eq_true, if_false, if_pos (show (0 : Int) ≤ (i : Int) by omega), if_pos (show (i : Int) < (a.size : Int) by omega), isReturn_eq, Option.bind_some, hR']
      refine match_j2 a hn i (by omega) (-1) _ _ _ _ _ _ (by omega) (by omega) (by omega) (by omega) (by omega) ?_
      by_cases hC : isC (bt a i) = true
      · rw [if_pos hC]
        simp only [Th.step, hR', Bool.false_eq_true, if_false, hC, if_true] at hnext
        exact hnext
      · rw [if_neg hC]
        simp only [Th.step, hR', Bool.false_eq_true, if_false, hC] at hnext
        exact hnext

theorem match_ev (a : ByteArray) (hn : a.size ≤ 1048576) : Ev (fun k => impl_match.f k a)
    ((st (bt a) a.size).p, (st (bt a) a.size).r, (st (bt a) a.size).c, (st (bt a) a.size).d, (st (bt a) a.size).q) := match_loop a hn a.size 0 (by omega)

end Go.Proofs.Ytolmmfcofbhagaa.Br
namespace Go.Proofs.Ytolmmfcofbhagaa.Br
open Go.RowKit Go.Proofs.Ytolmmfcofbhagaa.R Go.Proofs.YtolmmfcofbhagaaW.PrintWords Go.Proofs.YtolmmfcofbhagaaW.PrintLast Go.Proofs.YtolmmfcofbhagaaW.PrintMore Go.Proofs.Ytolmmfcofbhagaa.Th
set_option linter.unusedVariables false
set_option linter.unusedSimpArgs false
theorem partners_loop (a : ByteArray) (hn : a.size ≤ 1048576) : ∀ d i : Nat, i + d = a.size →
    Ev (fun k => spec_l01Partners.l0 k a (st (bt a) i).p (st (bt a) i).c i) (st (bt a) a.size).p := by
  intro d
  induction d with
  | zero =>
    intro i hi
    obtain rfl : i = a.size := by omega
    refine Ev.succ ?_
    simp only [spec_l01Partners.l0, if_neg (show ¬ (a.size : Int) < (a.size : Int) by omega)]
    exact Ev.now _
  | succ d ih =>
    intro i hi
    have B := basic (bt a) i
    have hnext := ih (i + 1) (by omega)
    have hst : st (bt a) (i + 1) = Th.step (st (bt a) i) i (bt a i) := rfl
    rw [hst] at hnext
    obtain ⟨lp, lq, ld, lr, lc, hc, hr⟩ := B
    generalize st (bt a) i = s at *
    refine Ev.succ ?_
    simp only [spec_l01Partners.l0, if_pos (show (i : Int) < (a.size : Int) by omega), if_pos (show (0 : Int) ≤ (i : Int) by omega), sCall_eq, sReturn_eq, Option.bind_some]
    by_cases hC : isC (bt a i) = true
    · have hR : isR (bt a i) = false := by
        cases h : isR (bt a i) with
        | false => rfl
        | true => rw [isR_notC h] at hC; cases hC
      simp only [hC, if_true]
      rw [w64 (by omega) (by omega)]
      simp only [if_pos (show s.p.length < 17592186044416 by omega), if_pos (show s.c.length < 17592186044416 by omega)]
      simp only [Th.step, hR, Bool.false_eq_true, if_false, hC, if_true] at hnext
      exact hnext
    · have hC' : isC (bt a i) = false := by simpa using hC
      simp only [hC', Bool.false_eq_true, if_false]
      by_cases hR : isR (bt a i) = true
      · simp only [hR, if_true]
        refine Ev.succ ?_
        simp only [spec_l01Partners.j1]
        by_cases he : s.c = []
        · simp only [he, List.length_nil, show decide (((0 : Nat) : Int) > 0) = false by decide, Bool.false_eq_true, if_false, if_pos (show (i : Int) < (a.size : Int) by omega), if_pos (show (0 : Int) ≤ (i : Int) by omega), sReturn_eq, Option.bind_some, hR, if_true, if_pos (show s.p.length < 17592186044416 by omega)]
          rw [w64 (by omega) (by omega)]
          simp only [Th.step, hR, if_true, he] at hnext
          exact hnext
        · have hl : 0 < s.c.length := List.length_pos_iff.2 he
          have ht := hc _ (top_mem he)
          rw [w64 (show -9223372036854775808 ≤ (s.c.length : Int) - 1 by omega) (by omega), w64 (by omega) (by omega)]
          simp only [show decide ((s.c.length : Int) > 0) = true by simp; omega, if_true, Option.bind_some,
            if_pos (show 0 ≤ (s.c.length : Int) - 1 by omega), if_pos (show (s.c.length : Int) - 1 < (s.c.length : Int) by omega), rd_last he, if_pos ht.1, if_pos (show top s.c < (s.p.length : Int) by omega), if_pos (show (s.c.length : Int) - 1 ≤ (s.c.length : Int) by omega), take_last, List.length_set, if_pos (show s.p.length < 17592186044416 by omega)]
          simp only [Th.step, hR, if_true, if_neg he] at hnext
          exact hnext
      · have hR' : isR (bt a i) = false := by simpa using hR
        simp only [hR', Bool.false_eq_true, if_false]
        refine Ev.succ ?_
        simp only [spec_l01Partners.j1, Bool.false_eq_true, if_false, if_pos (show (i : Int) < (a.size : Int) by omega), if_pos (show (0 : Int) ≤ (i : Int) by omega), sReturn_eq, Option.bind_some, hR', if_pos (show s.p.length < 17592186044416 by omega)]
        rw [w64 (by omega) (by omega)]
        simp only [Th.step, hR', Bool.false_eq_true, if_false, hC'] at hnext
        exact hnext

theorem partners_ev (a : ByteArray) (hn : a.size ≤ 1048576) : Ev (fun k => spec_l01Partners.f k a) (st (bt a) a.size).p := partners_loop a hn a.size 0 (by omega)

theorem g_rd (l : List Int) (i : Nat) : rd l i = g l i := by unfold rd g; simp

end Go.Proofs.Ytolmmfcofbhagaa.Br
namespace Go.Proofs.Ytolmmfcofbhagaa.Br
open Go.RowKit Go.Proofs.Ytolmmfcofbhagaa.R Go.Proofs.YtolmmfcofbhagaaW.PrintWords Go.Proofs.YtolmmfcofbhagaaW.PrintLast Go.Proofs.YtolmmfcofbhagaaW.PrintMore Go.Proofs.Ytolmmfcofbhagaa.Th
set_option linter.unusedVariables false
set_option linter.unusedSimpArgs false
theorem sn_size (l : List Int) : (strOfNums l).size = l.length := by
  simp [strOfNums, ByteArray.size]
theorem sn_bt {l : List Int} (h : ∀ x ∈ l, 0 ≤ x ∧ x ≤ 255) (j : Nat) : bt (strOfNums l) j = g l j := by
  by_cases hj : j < l.length
  · rw [bt_lt (by rw [sn_size]; exact hj)]
    have := h (l[j]) (List.getElem_mem _)
    simp [strOfNums, ByteArray.getElem_eq_getElem_data, g, List.getD_eq_getElem?_getD, hj]
    omega
  · rw [bt_ge (by rw [sn_size]; omega)]
    simp [g, List.getD_eq_getElem?_getD, hj]


theorem sn_snoc (l : List Int) (a : ByteArray) {i : Nat} (hi : i < a.size) : strOfNums l ++ a.extract i (i + 1) = strOfNums (l ++ [bt a i]) := by
  have h : a.extract i (i + 1) = strOfNums [bt a i] := by
    refine ba_ext (by rw [ByteArray.size_extract, sn_size]; simp; omega) ?_
    intro j hj
    rw [ByteArray.size_extract] at hj
    have := bt_range a i
    rw [bt_extract a (by omega) (by omega), sn_bt (by simpa using this), show j = 0 by omega]
    rfl
  rw [h]
  apply ByteArray.ext
  simp [strOfNums]

/-- The bytes at places. -/
def at_ (a : ByteArray) (l : List Int) : List Int := l.map fun x => bt a x

theorem core_loop (a : ByteArray) (hn : a.size ≤ 1048576) (p : List Int) (hp : p.length = a.size) : ∀ d i : Nat, i + d = a.size →
    Ev (fun k => spec_l01Core.l0 k a p (strOfNums (at_ a (sel (fun j => g p j == -2) i))) i) (strOfNums (at_ a (sel (fun j => g p j == -2) a.size))) := by
  intro d
  induction d with
  | zero =>
    intro i hi
    obtain rfl : i = a.size := by omega
    refine Ev.succ ?_
    simp only [spec_l01Core.l0, if_neg (show ¬ (a.size : Int) < (a.size : Int) by omega)]
    exact Ev.now _
  | succ d ih =>
    intro i hi
    have hnext := ih (i + 1) (by omega)
    rw [sel] at hnext
    have b1 : (i : Int) < (a.size : Int) := by omega
    have b2 : (0 : Int) ≤ (i : Int) := by omega
    have b3 : (i : Int) < (p.length : Int) := by omega
    have b4 : (i : Int) ≤ (i : Int) + 1 := by omega
    have b5 : (i : Int) + 1 ≤ (a.size : Int) := by omega
    have l1 := sel_len (f := fun j => g p j == -2) i
    have b6 : (strOfNums (at_ a (sel (fun j => g p j == -2) i))).size + (a.extract i (i + 1)).size ≤ 9223372036854775807 := by
      rw [sn_size, ByteArray.size_extract, at_, List.length_map]; omega
    have b7 : ((i : Int) + 1).toNat = i + 1 := by omega
    have f3 : wrap64 ((i : Int) + 1) = (i : Int) + 1 := w64 (by omega) (by omega)
    refine Ev.succ ?_
    simp only [spec_l01Core.l0, if_pos b1, if_pos b2, if_pos b3, g_rd, f3, if_pos b4, if_pos b5, b7, Int.toNat_natCast, if_pos b6, sn_snoc _ a (show i < a.size by omega)]
    by_cases h : g p i = -2
    · simp only [h, if_true]
      simp only [h, BEq.rfl, if_true] at hnext
      have : at_ a (sel (fun j => g p j == -2) i) ++ [bt a i] = at_ a (sel (fun j => g p j == -2) i ++ [(i : Int)]) := by simp [at_]
      rw [this]
      exact hnext
    · simp only [h, if_false]
      simp only [beq_eq_false_iff_ne.2 h, Bool.false_eq_true, if_false] at hnext
      exact hnext

theorem core_ev (a : ByteArray) (hn : a.size ≤ 1048576) : Ev (fun k => spec_l01Core.f k a) (strOfNums (at_ a ((st (bt a) a.size).r ++ (st (bt a) a.size).c))) := by
  unfold spec_l01Core.f
  refine Ev.bind (partners_ev a hn) ?_
  have := core_loop a hn (st (bt a) a.size).p (basic (bt a) a.size).lp a.size 0 (by omega)
  rw [pend_all] at this
  exact this

end Go.Proofs.Ytolmmfcofbhagaa.Br
namespace Go.Proofs.Ytolmmfcofbhagaa.Br
open Go.RowKit Go.Proofs.Ytolmmfcofbhagaa.R Go.Proofs.YtolmmfcofbhagaaW.PrintWords Go.Proofs.YtolmmfcofbhagaaW.PrintLast Go.Proofs.YtolmmfcofbhagaaW.PrintMore Go.Proofs.Ytolmmfcofbhagaa.Th
set_option linter.unusedVariables false
set_option linter.unusedSimpArgs false
theorem down {P : Nat → Prop} (n : Nat) (h0 : P n) (h1 : ∀ i, i < n → P (i + 1) → P i) : ∀ i, i ≤ n → P i := by
  have key : ∀ d i, i + d = n → P i := by
    intro d
    induction d with
    | zero => intro i hi; obtain rfl : i = n := by omega
              exact h0
    | succ d ih => intro i hi; exact h1 i (by omega) (ih (i + 1) (by omega))
  intro i hi
  exact key (n - i) i (by omega)
theorem up1 (i : Nat) (h : i < 9223372036854775807) : wrap64 ((i : Int) + 1) = ((i + 1 : Nat) : Int) := by
  rw [w64 (by omega) (by omega)]; rfl
theorem inlt {n : Nat} : ¬ ((n : Int) < (n : Int)) := by omega
theorem i0 (i : Nat) : 0 ≤ (i : Int) := by omega
theorem getD_mem {α : Type} (l : List α) (i : Nat) (d : α) (h : i < l.length) : l.getD i d ∈ l := by
  rw [List.getD_eq_getElem?_getD, List.getElem?_eq_getElem h]
  exact List.getElem_mem h
end Go.Proofs.Ytolmmfcofbhagaa.Br
namespace Go.Proofs.Ytolmmfcofbhagaa.Br
open Go.RowKit Go.Proofs.Ytolmmfcofbhagaa.R Go.Proofs.YtolmmfcofbhagaaW.PrintWords Go.Proofs.YtolmmfcofbhagaaW.PrintLast Go.Proofs.YtolmmfcofbhagaaW.PrintMore Go.Proofs.Ytolmmfcofbhagaa.Th
set_option linter.unusedVariables false
set_option linter.unusedSimpArgs false
set_option linter.unusedSectionVars false
def oth (b : Int) : Int := if b = 40 then 41 else 93
theorem isC_or {b : Int} (h : isC b = true) : b = 40 ∨ b = 91 := by unfold isC at h; simpa using h
theorem isR_or {b : Int} (h : isR b = true) : b = 41 ∨ b = 93 := by unfold isR at h; simpa using h
theorem sOther_eq {b : Int} (h : isC b = true) : spec_l01Other.f b = some (oth b) := by
  rcases isC_or h with rfl | rfl <;> rfl
theorem iRet_eq {b : Int} (h : isC b = true) : impl_returnFor.f b = some (oth b) := by
  rcases isC_or h with rfl | rfl <;> decide +kernel
def rp (n : Nat) : ByteArray := strOfNums (List.replicate n 40)
theorem rp_size (n : Nat) : (rp n).size = n := by unfold rp; rw [sn_size, List.length_replicate]
theorem rp_bt (n j : Nat) (h : j < n) : bt (rp n) j = 40 := by
  unfold rp
  rw [sn_bt (fun x hx => by rw [List.eq_of_mem_replicate hx]; omega)]
  unfold g
  rw [List.getD_eq_getElem?_getD, List.getElem?_replicate, if_pos h]
  rfl
theorem rp_succ (n : Nat) (a : ByteArray) : (⟨#[40]⟩ : ByteArray) ++ (rp n ++ a) = rp (n + 1) ++ a := by
  have h1 : (⟨#[40]⟩ : ByteArray).size = 1 := rfl
  refine ba_ext (by simp only [ByteArray.size_append, rp_size, h1]; omega) fun j hj => ?_
  simp only [ByteArray.size_append, rp_size, h1] at hj
  rw [bt_append, h1, bt_append, rp_size, bt_append, rp_size]
  by_cases h : j < 1
  · rw [if_pos h, if_pos (by omega), rp_bt _ _ (by omega)]
    obtain rfl : j = 0 := by omega
    decide
  · rw [if_neg h]
    by_cases h2 : j - 1 < n
    · rw [if_pos h2, if_pos (by omega), rp_bt _ _ h2, rp_bt _ _ (by omega)]
    · rw [if_neg h2, if_neg (by omega)]
      congr 1; omega
theorem rp_zero (a : ByteArray) : rp 0 ++ a = a := by
  refine ba_ext (by simp only [ByteArray.size_append, rp_size]; omega) fun j hj => ?_
  rw [bt_append, rp_size, if_neg (by omega)]
  congr 1
/-- What stands behind: the returns for all pending calls but the first m. -/
def bk (C : List Int) (m : Nat) : List Int := ((C.drop m).reverse).map oth
theorem bk_end (C : List Int) (m : Nat) (h : C.length ≤ m) : bk C m = [] := by unfold bk; rw [List.drop_of_length_le h]; rfl
theorem bk_step (C : List Int) (m : Nat) (h : m < C.length) : bk C m = bk C (m + 1) ++ [oth (C.getD m 0)] := by
  unfold bk
  rw [List.drop_eq_getElem_cons h, List.reverse_cons, List.map_append, List.getD_eq_getElem?_getD, List.getElem?_eq_getElem h]
  rfl
theorem bk_len (C : List Int) (m : Nat) : (bk C m).length = C.length - m := by unfold bk; simp
theorem sn_app (l : List Int) (x : Int) : strOfNums (l ++ [x]) = strOfNums l ++ strOfNums [x] := by simp [strOfNums]; rfl
section
variable (R C : List Int) (a : ByteArray) (hR : ∀ x ∈ R, isR x = true) (hC : ∀ x ∈ C, isC x = true) (lR : R.length ≤ 60) (lC : C.length ≤ 60) (la : a.size ≤ 60)
include hR hC lR lC la
theorem core_bytes : ∀ x ∈ R ++ C, 0 ≤ x ∧ x ≤ 255 := by
  intro x hx
  rcases List.mem_append.1 hx with h | h
  · rcases isR_or (hR x h) with rfl | rfl <;> omega
  · rcases isC_or (hC x h) with rfl | rfl <;> omega
theorem core_at_R (j : Nat) (h : j < R.length) : isR (bt (strOfNums (R ++ C)) j) = true := by
  rw [sn_bt (core_bytes R C a hR hC lR lC la), g_append_left h]
  exact hR _ (by unfold g; exact getD_mem R j 0 h)
theorem core_at_C (j : Nat) (h : R.length ≤ j) (h2 : j < R.length + C.length) : bt (strOfNums (R ++ C)) j = C.getD (j - R.length) 0 := by
  rw [sn_bt (core_bytes R C a hR hC lR lC la)]
  unfold g
  rw [List.getD_eq_getElem?_getD, List.getElem?_append_right h, ← List.getD_eq_getElem?_getD]
theorem sComp_l1 : ∀ m, m ≤ R.length + C.length → Ev (fun k => spec_CompleteWord.l1 k (strOfNums (R ++ C)) ((rp R.length ++ a) ++ strOfNums (bk C (m - R.length))) ((m : Int) - 1)) (if ((((rp R.length ++ a) ++ strOfNums (bk C 0)).size : Nat) : Int) > 60 then ((⟨#[]⟩ : ByteArray), 3) else ((rp R.length ++ a) ++ strOfNums (bk C 0), 0)) := by
  intro m
  induction m with
  | zero =>
    intro _
    refine Ev.succ ?_
    simp only [spec_CompleteWord.l1, show ¬ (((0 : Nat) : Int) - 1 ≥ 0) by decide, if_false, Nat.zero_sub, spec_l01Told.f]
    split <;> exact Ev.now _
  | succ m ih =>
    intro hm
    have hsz : ((strOfNums (R ++ C)).size : Int) = ((R.length + C.length : Nat) : Int) := by rw [sn_size, List.length_append]
    have c1 : ((m + 1 : Nat) : Int) - 1 ≥ 0 := by omega
    have e0 : ((m + 1 : Nat) : Int) - 1 = (m : Int) := by omega
    have c2 : (m : Int) < ((R.length + C.length : Nat) : Int) := by omega
    have c3 : (m : Int) ≥ 0 := by omega
    have nx := ih (by omega)
    have f1 : wrap64 ((m : Int) - 1) = (m : Int) - 1 := w64 (by omega) (by omega)
    refine Ev.succ ?_
    rw [e0]
    simp only [spec_CompleteWord.l1, if_pos c3, if_pos (i0 m), hsz, if_pos c2, sCall_eq, Option.bind_some, f1]
    by_cases h : m < R.length
    · have hr := core_at_R R C a hR hC lR lC la m h
      rw [isR_notC hr, show m + 1 - R.length = m - R.length by omega]
      simp only [Bool.false_eq_true, if_false]
      exact nx
    · have hb := core_at_C R C a hR hC lR lC la m (by omega) (by omega)
      have hc : isC (bt (strOfNums (R ++ C)) m) = true := by rw [hb]; exact hC _ (getD_mem C _ 0 (by omega))
      have hbk := bk_len C (m + 1 - R.length)
      have hs : (((rp R.length ++ a) ++ strOfNums (bk C (m + 1 - R.length))).size) + (strOfNums [oth (bt (strOfNums (R ++ C)) m)]).size ≤ 9223372036854775807 := by
        clear f1
        rw [ByteArray.size_append, ByteArray.size_append, rp_size, sn_size, sn_size, hbk]; simp; omega
      rw [hc]
      simp only [if_true, sOther_eq hc, Option.bind_some, if_pos hs]
      rw [bk_step C (m - R.length) (by clear f1; omega), ← hb, show m - R.length + 1 = m + 1 - R.length by clear f1; omega, sn_app, ← ByteArray.append_assoc] at nx
      exact nx
theorem sComp_l0 : ∀ i, i ≤ R.length + C.length → Ev (fun k => spec_CompleteWord.l0 k (strOfNums (R ++ C)) (rp (min i R.length) ++ a) i) (if ((((rp R.length ++ a) ++ strOfNums (bk C 0)).size : Nat) : Int) > 60 then ((⟨#[]⟩ : ByteArray), 3) else ((rp R.length ++ a) ++ strOfNums (bk C 0), 0)) := by
  have hsz : ((strOfNums (R ++ C)).size : Int) = ((R.length + C.length : Nat) : Int) := by rw [sn_size, List.length_append]
  refine down (R.length + C.length) ?_ ?_
  · have f1 : wrap64 (((R.length + C.length : Nat) : Int) - 1) = ((R.length + C.length : Nat) : Int) - 1 := w64 (by omega) (by omega)
    have h1 := sComp_l1 R C a hR hC lR lC la (R.length + C.length) (Nat.le_refl _)
    rw [bk_end C _ (by clear f1; omega)] at h1
    have e0 : strOfNums ([] : List Int) = ⟨#[]⟩ := rfl
    rw [e0, show ∀ x : ByteArray, x ++ (⟨#[]⟩ : ByteArray) = x from fun x => ByteArray.append_empty] at h1
    refine Ev.succ ?_
    simp only [spec_CompleteWord.l0, hsz, if_neg inlt, f1, show min (R.length + C.length) R.length = R.length by clear f1; omega]
    exact h1
  · intro i hi ih
    have c1 : (i : Int) < ((R.length + C.length : Nat) : Int) := by omega
    have u1 := up1 i (by omega)
    refine Ev.succ ?_
    simp only [spec_CompleteWord.l0, hsz, if_pos c1, if_pos (i0 i), sReturn_eq, Option.bind_some, u1]
    by_cases h : i < R.length
    · have hs : 1 + (rp (min i R.length) ++ a).size ≤ 9223372036854775807 := by clear u1; rw [ByteArray.size_append, rp_size]; omega
      rw [core_at_R R C a hR hC lR lC la i h]
      simp only [if_true, if_pos hs, rp_succ]
      rw [show min i R.length + 1 = min (i + 1) R.length by clear u1; omega]
      exact ih
    · have hb := core_at_C R C a hR hC lR lC la i (by clear u1; omega) (by clear u1; omega)
      have hc : isC (bt (strOfNums (R ++ C)) i) = true := by rw [hb]; exact hC _ (getD_mem C _ 0 (by clear u1; omega))
      have hnr : isR (bt (strOfNums (R ++ C)) i) = false := by
        cases e : isR (bt (strOfNums (R ++ C)) i)
        · rfl
        · rw [isR_notC e] at hc; cases hc
      rw [hnr]
      simp only [Bool.false_eq_true, if_false]
      rw [show min i R.length = min (i + 1) R.length by clear u1; omega]
      exact ih
end
/-- What CompleteWord tells. -/
def compW (a : ByteArray) : ByteArray := (rp (st (bt a) a.size).r.length ++ a) ++ strOfNums (bk (at_ a (st (bt a) a.size).c) 0)
def compR (a : ByteArray) : ByteArray × Int := if okw a = true then (if ((compW a).size : Int) > 60 then ((⟨#[]⟩ : ByteArray), 3) else (compW a, 0)) else ((⟨#[]⟩ : ByteArray), 1)
theorem at_len (a : ByteArray) (l : List Int) : (at_ a l).length = l.length := by unfold at_; simp
theorem pend_R (a : ByteArray) : ∀ x ∈ at_ a (st (bt a) a.size).r, isR x = true := by
  intro x hx
  obtain ⟨y, hy, rfl⟩ := List.mem_map.1 hx
  obtain ⟨y0, _⟩ := (basic (bt a) a.size).hr y hy
  obtain ⟨j, rfl⟩ := Int.eq_ofNat_of_zero_le y0
  exact (inv (bt a) a.size).br j hy
theorem pend_C (a : ByteArray) : ∀ x ∈ at_ a (st (bt a) a.size).c, isC x = true := by
  intro x hx
  obtain ⟨y, hy, rfl⟩ := List.mem_map.1 hx
  obtain ⟨y0, _⟩ := (basic (bt a) a.size).hc y hy
  obtain ⟨j, rfl⟩ := Int.eq_ofNat_of_zero_le y0
  exact (inv (bt a) a.size).bc j hy
theorem sComplete_ev (a : ByteArray) (hn : a.size ≤ 1048576) : Ev (fun k => spec_CompleteWord.f k a) (compR a) := by
  unfold spec_CompleteWord.f compR
  refine Ev.bind (specOk_ev a hn) ?_
  by_cases h : okw a = true
  · simp only [h, if_true]
    have hs := okw_size h
    have B := basic (bt a) a.size
    have lr := B.lr
    have lc := B.lc
    refine Ev.bind (core_ev a hn) ?_
    have e : at_ a ((st (bt a) a.size).r ++ (st (bt a) a.size).c) = at_ a (st (bt a) a.size).r ++ at_ a (st (bt a) a.size).c := by unfold at_; rw [List.map_append]
    have h0 := sComp_l0 (at_ a (st (bt a) a.size).r) (at_ a (st (bt a) a.size).c) a (pend_R a) (pend_C a) (by rw [at_len]; omega) (by rw [at_len]; omega) hs 0 (by omega)
    rw [Nat.zero_min, rp_zero, at_len a (st (bt a) a.size).r] at h0
    rw [e]
    exact h0
  · simp only [h, if_false]
    exact Ev.now _
theorem repeat_eq (n : Nat) (h : n ≤ 60) : strings_Repeat.f (⟨#[40]⟩ : ByteArray) (n : Int) = some (rp n) := by
  have hs : (⟨#[40]⟩ : ByteArray).size = 1 := rfl
  unfold strings_Repeat.f
  rw [if_pos ⟨⟨by omega, by omega⟩, by rw [hs, Int.toNat_natCast]; omega⟩, Int.toNat_natCast]
  congr 1
  have : ∀ n : Nat, Lib.repeatL [40] n = List.replicate n (40 : UInt8) := by
    intro n
    have := Lib.repeatL_replicate (40 : UInt8) 1 n
    simpa using this
  show (⟨(Lib.repeatL [40] n).toArray⟩ : ByteArray) = _
  rw [this]
  unfold rp strOfNums
  rw [List.map_replicate]
  rfl
theorem iComp_l0 (a : ByteArray) (p r c d q : List Int) (hc : ∀ x ∈ c, 0 ≤ x ∧ x < a.size) (hC : ∀ x ∈ at_ a c, isC x = true) (lr : r.length ≤ 60) (lc : c.length ≤ 60) (la : a.size ≤ 60) (res : ByteArray × Int)
    (hres : Ev (fun k => impl_orLimit.f k ((rp r.length ++ a) ++ strOfNums (bk (at_ a c) 0))) res) :
    ∀ m, m ≤ c.length → Ev (fun k => impl_CompleteWord.l0 k a (bk (at_ a c) m) ((m : Int) - 1) p r c d q) res := by
  intro m
  induction m with
  | zero =>
    intro _
    have s1 : (rp r.length).size + a.size ≤ 9223372036854775807 := by rw [rp_size]; omega
    have s2 : (rp r.length ++ a).size + (strOfNums (bk (at_ a c) 0)).size ≤ 9223372036854775807 := by rw [ByteArray.size_append, rp_size, sn_size, bk_len, at_len]; omega
    refine Ev.succ ?_
    simp only [impl_CompleteWord.l0, show ¬ (((0 : Nat) : Int) - 1 ≥ 0) by decide, if_false, repeat_eq _ lr, Option.bind_some, if_pos s1, if_pos s2]
    exact Ev.bind hres (Ev.now _)
  | succ m ih =>
    intro hm
    have e0 : ((m + 1 : Nat) : Int) - 1 = (m : Int) := by omega
    have c3 : (m : Int) ≥ 0 := by omega
    have c2 : (m : Int) < (c.length : Int) := by omega
    have er : rd c m = c.getD m 0 := by unfold rd; rw [Int.toNat_natCast]
    have hmem := getD_mem c m 0 (by omega)
    have hx := hc _ hmem
    have hg : (at_ a c).getD m 0 = bt a (c.getD m 0) := by
      unfold at_
      rw [List.getD_eq_getElem?_getD, List.getElem?_map, List.getD_eq_getElem?_getD, List.getElem?_eq_getElem (by omega)]
      rfl
    have hcb : isC (bt a (c.getD m 0)) = true := hC _ (by unfold at_; exact List.mem_map.2 ⟨_, hmem, rfl⟩)
    have hl : (bk (at_ a c) (m + 1)).length < 140737488355328 := by rw [bk_len, at_len]; omega
    have nx := ih (by omega)
    have hb := bk_step (at_ a c) m (by rw [at_len]; omega)
    rw [hg] at hb
    have f1 : wrap64 ((m : Int) - 1) = (m : Int) - 1 := w64 (by omega) (by omega)
    refine Ev.succ ?_
    rw [e0]
    simp only [impl_CompleteWord.l0, if_pos c3, if_pos (i0 m), if_pos c2, er, if_pos hx.1, if_pos hx.2, iRet_eq hcb, Option.bind_some, if_pos hl, f1]
    rw [hb] at nx
    exact nx
theorem comp_okw {a : ByteArray} (h : okw a = true) : okw (compW a) = decide ((compW a).size ≤ 60) := by
  by_cases h2 : (compW a).size ≤ 60
  · rw [decide_eq_true h2, okw_iff]
    refine ⟨fun j hj => ?_, h2⟩
    unfold compW at hj ⊢
    rw [bt_append]
    split
    · rename_i h3
      rw [bt_append, rp_size]
      split
      · rename_i h4
        rw [rp_bt _ _ h4]; decide
      · rename_i h4
        rw [ByteArray.size_append, rp_size] at h3
        exact okw_sym h (by omega)
    · rename_i h3
      rw [ByteArray.size_append, sn_size] at hj
      have hby : ∀ x ∈ bk (at_ a (st (bt a) a.size).c) 0, x = 41 ∨ x = 93 := by
        intro x hx
        unfold bk at hx
        obtain ⟨y, _, rfl⟩ := List.mem_map.1 hx
        unfold oth
        split
        · exact Or.inl rfl
        · exact Or.inr rfl
      rw [sn_bt (fun x hx => by rcases hby x hx with rfl | rfl <;> omega)]
      have := hby _ (getD_mem (bk (at_ a (st (bt a) a.size).c) 0) (j - ((rp (st (bt a) a.size).r.length ++ a).size)) 0 (by omega))
      unfold g
      rcases this with e | e <;> rw [e] <;> decide
  · rw [decide_eq_false h2]
    cases e : okw (compW a)
    · rfl
    · exact absurd (okw_size e) h2
theorem iComplete_ev (a : ByteArray) (hn : a.size ≤ 1048576) : Ev (fun k => impl_CompleteWord.f k a) (compR a) := by
  unfold impl_CompleteWord.f compR
  refine Ev.bind (valid_ev a hn) ?_
  by_cases h : okw a = true
  · simp only [h, if_true]
    have hs := okw_size h
    have B := basic (bt a) a.size
    have lr := B.lr
    have lc := B.lc
    have hW : (compW a).size ≤ 1048576 := by
      unfold compW
      rw [ByteArray.size_append, ByteArray.size_append, rp_size, sn_size, bk_len, at_len]; omega
    refine Ev.bind (match_ev a hn) ?_
    have f1 : wrap64 (((st (bt a) a.size).c.length : Int) - 1) = ((st (bt a) a.size).c.length : Int) - 1 := w64 (by omega) (by omega)
    have hres : Ev (fun k => impl_orLimit.f k (compW a)) (if ((compW a).size : Int) > 60 then ((⟨#[]⟩ : ByteArray), (3 : Int)) else (compW a, 0)) := by
      clear f1
      unfold impl_orLimit.f
      refine Ev.bind (valid_ev _ hW) ?_
      rw [comp_okw h]
      by_cases h2 : (compW a).size ≤ 60
      · rw [decide_eq_true h2, if_neg (show ¬ ((compW a).size : Int) > 60 by omega)]
        simp only [if_true]
        exact Ev.now _
      · rw [decide_eq_false h2, if_pos (show ((compW a).size : Int) > 60 by omega)]
        simp only [Bool.false_eq_true, if_false]
        exact Ev.now _
    have hl := iComp_l0 a (st (bt a) a.size).p (st (bt a) a.size).r (st (bt a) a.size).c (st (bt a) a.size).d (st (bt a) a.size).q B.hc (pend_C a) (by clear f1; omega) (by clear f1; omega) hs _ hres (st (bt a) a.size).c.length (Nat.le_refl _)
    rw [bk_end _ _ (by rw [at_len]; exact Nat.le_refl _)] at hl
    simp only [f1]
    exact hl
  · simp only [h, if_false]
    exact Ev.now _
end Go.Proofs.Ytolmmfcofbhagaa.Br
