/- Machine side of the laws of this seat: for each Go function that they reach, a Lean function and the proof that a call comes to just its answer. Written by a program of this session. -/
import Derived.Test.YtcaijfndmkdboaaPq0
namespace Go.Proofs.Ytcaijfndmkdboaa.Y
open Go.RowKit Go.Proofs.YtcaijfndmkdboaaW.PrintWords Go.Proofs.YtcaijfndmkdboaaW.PrintLast Go.Proofs.YtcaijfndmkdboaaW.PrintMore
attribute [local go_sem] max2_int min2_int max_two min_two max_three min_three max_four min_four   -- for this text's walks alone
set_option linter.unusedVariables false
set_option linter.unusedSimpArgs false

/-! ### spec_l05Text: function 119 -/
def spec_l05Text.l0 : Nat → ByteArray → Int → List (S130) → Option (ByteArray)
  | 0, _, _, _ => none
  | k + 1, x3, x4, x1000 => if x4 < (x1000.length : Int) then (if x3.size + 1 ≤ 9223372036854775807 then (if 0 ≤ x4 then (if (rd_T130 x1000 x4).f0 = true then (if (x3 ++ (⟨#[47]⟩ : ByteArray)).size + 1 ≤ 9223372036854775807 then (if ((x3 ++ (⟨#[47]⟩ : ByteArray)) ++ (⟨#[47]⟩ : ByteArray)).size + ((rd_T130 x1000 x4).f1).size ≤ 9223372036854775807 then (spec_l05Text.l0 k (((x3 ++ (⟨#[47]⟩ : ByteArray)) ++ (⟨#[47]⟩ : ByteArray)) ++ ((rd_T130 x1000 x4).f1)) (wrap64 (x4 + 1)) x1000) else (none)) else (none)) else (if (x3 ++ (⟨#[47]⟩ : ByteArray)).size + ((rd_T130 x1000 x4).f1).size ≤ 9223372036854775807 then (spec_l05Text.l0 k ((x3 ++ (⟨#[47]⟩ : ByteArray)) ++ ((rd_T130 x1000 x4).f1)) (wrap64 (x4 + 1)) x1000) else (none))) else (none)) else (none)) else (some x3)
def spec_l05Text.f (k : Nat) (l0_0 : List (S130)) : Option (ByteArray) := spec_l05Text.l0 k (⟨#[]⟩ : ByteArray) 0 l0_0
theorem spec_l05Text.mono_l : ∀ k, (∀ y0 y1 y2, LeO (spec_l05Text.l0 k y0 y1 y2) (spec_l05Text.l0 (k + 1) y0 y1 y2))
  | 0 => fun _ _ _ r h => by simp [spec_l05Text.l0] at h
  | k + 1 => by
    have ih0 := spec_l05Text.mono_l k
    · intro y0 y1 y2
      unfold spec_l05Text.l0
      repeat' first
      | (with_reducible exact ih0 _ _ _)
      | (with_reducible exact LeO.refl _)
      | (with_reducible exact LeO.none _)
      | (with_reducible refine LeO.ite ?_ ?_)
      | (with_reducible refine LeO.bind ?_ (fun _ => ?_))
      | exact ih0 _ _ _
      | exact LeO.none _
      | refine LeO.ite ?_ ?_
      | refine LeO.bind ?_ (fun _ => ?_)
theorem spec_l05Text.mono : ∀ a0 k, LeO (spec_l05Text.f k a0) (spec_l05Text.f (k + 1) a0) := by
  intro a0 k
  have ih0 := spec_l05Text.mono_l k
  unfold spec_l05Text.f
  repeat' first
      | (with_reducible exact ih0 _ _ _)
      | (with_reducible exact LeO.refl _)
      | (with_reducible exact LeO.none _)
      | (with_reducible refine LeO.ite ?_ ?_)
      | (with_reducible refine LeO.bind ?_ (fun _ => ?_))
      | exact ih0 _ _ _
      | exact LeO.none _
      | refine LeO.ite ?_ ?_
      | refine LeO.bind ?_ (fun _ => ?_)
set_option maxHeartbeats 8000000 in
set_option maxRecDepth 100000 in
theorem spec_l05Text.calls (k : Nat) (g0_ : Nat) (A0_0 : Option Addr) (c0_0 : Nat) (l0_0 : List (S130)) (r : ByteArray) (w : World) (hr0_0 : Kd.C k130 w A0_0 l0_0.length l0_0) (hc0_0 : l0_0.length ≤ c0_0) (hbk0_0 : w.heap[g0_]? = some (.cells #[.slice A0_0 l0_0.length c0_0] 66 (0, 0))) (h : spec_l05Text.f k l0_0 = some r) :
    Calls Try.prog 119 #[.pointer (some ⟨g0_, 0, none⟩)] w fun e w' => e = .returned (.string r) ∧ Drawn0 w w' := by
  have HR0_0 := Aside0.mk hr0_0
  have HC0_0 := Aside0.mk hc0_0
  clear hr0_0 hc0_0
  have BK0 := Aside0.mk hbk0_0
  clear hbk0_0
  have H : (spec_l05Text.l0 k (⟨#[]⟩ : ByteArray) 0 l0_0) = some r := h
  clear h
  have H' := Aside0.mk H
  clear H
  go_enter Try.func119, Try.ntmps119
  go_wp2
  go_loopg [3, 4] k (fun kq v3 v4 w' => ∃ (x3_1 : ByteArray) (x4_1 : Int), v3 = .string x3_1 ∧ v4 = .int .i64 x4_1 ∧ Aside0 (spec_l05Text.l0 kq x3_1 x4_1 l0_0 = some r) ∧ Aside0 (kq ≤ k) ∧ Drawn0 w w')
  case atStart => exact ⟨((⟨#[]⟩ : ByteArray)), (0), (by first | rfl | (simp; done) | (simp [*]; done)), (by first | rfl | (simp; done) | (simp [*]; done)), H', ⟨Nat.le_refl _⟩, by repeat (first | exact Drawn0.refl _ | apply Drawn0.step)⟩
  case round =>
    clear H'
    try clear c1
    obtain ⟨x3_1, x4_1, rfl, rfl, HA, HK1, ⟨m1, rfl⟩⟩ := hrel
    cases gk with
    | zero => exact absurd HA.out (by simp [spec_l05Text.l0])
    | succ k1 =>
      have H := HA.out
      clear HA
      simp only [spec_l05Text.l0] at H
      by_cases c2 : x4_1 < (l0_0.length : Int)
      · rw [if_pos c2] at H
        have c2b0 : decide (x4_1 < (l0_0.length : Int)) = true := decide_eq_true c2
        clear c2
        by_cases c3 : x3_1.size + 1 ≤ 9223372036854775807
        · rw [if_pos c3] at H
          have c3b0 := eq_true c3
          have c3b1 : decide (x3_1.size + 1 ≤ 9223372036854775807) = true := decide_eq_true c3
          try have c3b2 : (9223372036854775807 < x3_1.size + 1) = False := eq_false (Nat.not_lt.2 c3)
          by_cases c4 : 0 ≤ x4_1
          · rw [if_pos c4] at H
            have c4b0 : decide (0 ≤ x4_1) = true := decide_eq_true c4
            clear c4
            obtain ⟨bq5, hbq5⟩ : ∃ b_ : Bool, b_ = ((rd_T130 l0_0 x4_1).f0) := ⟨_, rfl⟩
            replace H : (if bq5 = true then (if (x3_1 ++ (⟨#[47]⟩ : ByteArray)).size + 1 ≤ 9223372036854775807 then (if ((x3_1 ++ (⟨#[47]⟩ : ByteArray)) ++ (⟨#[47]⟩ : ByteArray)).size + ((rd_T130 l0_0 x4_1).f1).size ≤ 9223372036854775807 then (spec_l05Text.l0 k1 (((x3_1 ++ (⟨#[47]⟩ : ByteArray)) ++ (⟨#[47]⟩ : ByteArray)) ++ ((rd_T130 l0_0 x4_1).f1)) (wrap64 (x4_1 + 1)) l0_0) else (none)) else (none)) else (if (x3_1 ++ (⟨#[47]⟩ : ByteArray)).size + ((rd_T130 l0_0 x4_1).f1).size ≤ 9223372036854775807 then (spec_l05Text.l0 k1 ((x3_1 ++ (⟨#[47]⟩ : ByteArray)) ++ ((rd_T130 l0_0 x4_1).f1)) (wrap64 (x4_1 + 1)) l0_0) else (none))) = some r := by rw [← hbq5] at H; exact H
            have Nbq5 := Aside0.mk hbq5
            clear hbq5
            by_cases c6 : bq5 = true
            · subst c6
              have H1 : (if (x3_1 ++ (⟨#[47]⟩ : ByteArray)).size + 1 ≤ 9223372036854775807 then (if ((x3_1 ++ (⟨#[47]⟩ : ByteArray)) ++ (⟨#[47]⟩ : ByteArray)).size + ((rd_T130 l0_0 x4_1).f1).size ≤ 9223372036854775807 then (spec_l05Text.l0 k1 (((x3_1 ++ (⟨#[47]⟩ : ByteArray)) ++ (⟨#[47]⟩ : ByteArray)) ++ ((rd_T130 l0_0 x4_1).f1)) (wrap64 (x4_1 + 1)) l0_0) else (none)) else (none)) = some r := by rw [if_pos rfl] at H; exact H
              clear H
              have H := H1
              clear H1
              by_cases c7 : (x3_1 ++ (⟨#[47]⟩ : ByteArray)).size + 1 ≤ 9223372036854775807
              · rw [if_pos c7] at H
                have c7b0 := eq_true c7
                have c7b1 : decide ((x3_1 ++ (⟨#[47]⟩ : ByteArray)).size + 1 ≤ 9223372036854775807) = true := decide_eq_true c7
                try have c7b2 : (9223372036854775807 < (x3_1 ++ (⟨#[47]⟩ : ByteArray)).size + 1) = False := eq_false (Nat.not_lt.2 c7)
                (try have c7b3 : (9223372036854775807 < x3_1.size + 1 + 1) = False := eq_false (by have h_ := c7; simp only [ByteArray.size_append] at h_; exact Nat.not_lt.2 h_))
                (try have c7b4 : (x3_1.size + 1 + 1 ≤ 9223372036854775807) = True := eq_true (by have h_ := c7; simp only [ByteArray.size_append] at h_; exact h_))
                by_cases c8 : ((x3_1 ++ (⟨#[47]⟩ : ByteArray)) ++ (⟨#[47]⟩ : ByteArray)).size + ((rd_T130 l0_0 x4_1).f1).size ≤ 9223372036854775807
                · rw [if_pos c8] at H
                  have c8b0 := eq_true c8
                  have c8b1 : decide (((x3_1 ++ (⟨#[47]⟩ : ByteArray)) ++ (⟨#[47]⟩ : ByteArray)).size + ((rd_T130 l0_0 x4_1).f1).size ≤ 9223372036854775807) = true := decide_eq_true c8
                  try have c8b2 : (9223372036854775807 < ((x3_1 ++ (⟨#[47]⟩ : ByteArray)) ++ (⟨#[47]⟩ : ByteArray)).size + ((rd_T130 l0_0 x4_1).f1).size) = False := eq_false (Nat.not_lt.2 c8)
                  (try have c8b3 : (9223372036854775807 < x3_1.size + 1 + 1 + ((rd_T130 l0_0 x4_1).f1).size) = False := eq_false (by have h_ := c8; simp only [ByteArray.size_append] at h_; exact Nat.not_lt.2 h_))
                  (try have c8b4 : (x3_1.size + 1 + 1 + ((rd_T130 l0_0 x4_1).f1).size ≤ 9223372036854775807) = True := eq_true (by have h_ := c8; simp only [ByteArray.size_append] at h_; exact h_))
                  have H' := Aside0.mk H
                  clear H
                  have hcz9_0 : w.cell? ⟨g0_, 0, none⟩ = some (.slice A0_0 l0_0.length c0_0) := (blk_cell BK0.out 0).trans rfl
                  have hfz9_0 := blk_frozen BK0.out 0
                  have p104 : 0 ≤ (x4_1 : Int) := of_decide_eq_true (by first | (with_reducible assumption) | assumption)
                  have q104 : x4_1 < (l0_0.length : Int) := of_decide_eq_true (by first | (with_reducible assumption) | assumption)
                  obtain ⟨ad104, e104, hx104_0, hx104_1⟩ := at_T130 HR0_0.out x4_1 p104 q104
                  (try rw [← Nbq5.out] at hx104_0)
                  cases e104
                  replace p104 := eq_true p104
                  replace q104 := eq_true q104
                  have p105 : 0 ≤ (x4_1 : Int) := of_decide_eq_true (by first | (with_reducible assumption) | assumption)
                  have q105 : x4_1 < (l0_0.length : Int) := of_decide_eq_true (by first | (with_reducible assumption) | assumption)
                  obtain ⟨ad105, e105, hx105_0, hx105_1⟩ := at_T130 HR0_0.out x4_1 p105 q105
                  (try rw [← Nbq5.out] at hx105_0)
                  obtain rfl : ad104 = ad105 := (by injection e105)
                  replace p105 := eq_true p105
                  replace q105 := eq_true q105
                  go_wp2
                  go_roundg k1
                  case measure => have := HK1.out; omega
                  case rel => exact ⟨(((x3_1 ++ (⟨#[47]⟩ : ByteArray)) ++ (⟨#[47]⟩ : ByteArray)) ++ ((rd_T130 l0_0 x4_1).f1)), (wrap64 (x4_1 + 1)), (by first | rfl | (simp; done) | (simp [*]; done)), (by first | rfl | (simp; done) | (simp [*]; done)), H', ⟨by have := HK1.out; omega⟩, by repeat (first | exact Drawn0.refl _ | apply Drawn0.step)⟩
                · rw [if_neg c8] at H
                  exact absurd H (by simp)
              · rw [if_neg c7] at H
                exact absurd H (by simp)
            · replace c6 := Bool.eq_false_iff.mpr c6
              subst c6
              have H1 : (if (x3_1 ++ (⟨#[47]⟩ : ByteArray)).size + ((rd_T130 l0_0 x4_1).f1).size ≤ 9223372036854775807 then (spec_l05Text.l0 k1 ((x3_1 ++ (⟨#[47]⟩ : ByteArray)) ++ ((rd_T130 l0_0 x4_1).f1)) (wrap64 (x4_1 + 1)) l0_0) else (none)) = some r := by rw [if_neg (show ¬ (false = true) by decide)] at H; exact H
              clear H
              have H := H1
              clear H1
              by_cases c10 : (x3_1 ++ (⟨#[47]⟩ : ByteArray)).size + ((rd_T130 l0_0 x4_1).f1).size ≤ 9223372036854775807
              · rw [if_pos c10] at H
                have c10b0 := eq_true c10
                have c10b1 : decide ((x3_1 ++ (⟨#[47]⟩ : ByteArray)).size + ((rd_T130 l0_0 x4_1).f1).size ≤ 9223372036854775807) = true := decide_eq_true c10
                try have c10b2 : (9223372036854775807 < (x3_1 ++ (⟨#[47]⟩ : ByteArray)).size + ((rd_T130 l0_0 x4_1).f1).size) = False := eq_false (Nat.not_lt.2 c10)
                (try have c10b3 : (9223372036854775807 < x3_1.size + 1 + ((rd_T130 l0_0 x4_1).f1).size) = False := eq_false (by have h_ := c10; simp only [ByteArray.size_append] at h_; exact Nat.not_lt.2 h_))
                (try have c10b4 : (x3_1.size + 1 + ((rd_T130 l0_0 x4_1).f1).size ≤ 9223372036854775807) = True := eq_true (by have h_ := c10; simp only [ByteArray.size_append] at h_; exact h_))
                have H' := Aside0.mk H
                clear H
                have hcz11_0 : w.cell? ⟨g0_, 0, none⟩ = some (.slice A0_0 l0_0.length c0_0) := (blk_cell BK0.out 0).trans rfl
                have hfz11_0 := blk_frozen BK0.out 0
                have p104 : 0 ≤ (x4_1 : Int) := of_decide_eq_true (by first | (with_reducible assumption) | assumption)
                have q104 : x4_1 < (l0_0.length : Int) := of_decide_eq_true (by first | (with_reducible assumption) | assumption)
                obtain ⟨ad104, e104, hx104_0, hx104_1⟩ := at_T130 HR0_0.out x4_1 p104 q104
                (try rw [← Nbq5.out] at hx104_0)
                cases e104
                replace p104 := eq_true p104
                replace q104 := eq_true q104
                have p106 : 0 ≤ (x4_1 : Int) := of_decide_eq_true (by first | (with_reducible assumption) | assumption)
                have q106 : x4_1 < (l0_0.length : Int) := of_decide_eq_true (by first | (with_reducible assumption) | assumption)
                obtain ⟨ad106, e106, hx106_0, hx106_1⟩ := at_T130 HR0_0.out x4_1 p106 q106
                (try rw [← Nbq5.out] at hx106_0)
                obtain rfl : ad104 = ad106 := (by injection e106)
                replace p106 := eq_true p106
                replace q106 := eq_true q106
                go_wp2
                go_roundg k1
                case measure => have := HK1.out; omega
                case rel => exact ⟨((x3_1 ++ (⟨#[47]⟩ : ByteArray)) ++ ((rd_T130 l0_0 x4_1).f1)), (wrap64 (x4_1 + 1)), (by first | rfl | (simp; done) | (simp [*]; done)), (by first | rfl | (simp; done) | (simp [*]; done)), H', ⟨by have := HK1.out; omega⟩, by repeat (first | exact Drawn0.refl _ | apply Drawn0.step)⟩
              · rw [if_neg c10] at H
                exact absurd H (by simp)
          · rw [if_neg c4] at H
            exact absurd H (by simp)
        · rw [if_neg c3] at H
          exact absurd H (by simp)
      · rw [if_neg c2] at H
        have c2b0 : decide (x4_1 < (l0_0.length : Int)) = false := decide_eq_false c2
        clear c2
        obtain rfl := Option.some.inj H
        have hcz12_0 : w.cell? ⟨g0_, 0, none⟩ = some (.slice A0_0 l0_0.length c0_0) := (blk_cell BK0.out 0).trans rfl
        have hfz12_0 := blk_frozen BK0.out 0
        go_wp2
        go_ret
        exact ⟨by first | rfl | (simp; done) | (simp [*]; done), by repeat (first | exact Drawn0.refl _ | apply Drawn0.step)⟩

end Go.Proofs.Ytcaijfndmkdboaa.Y
