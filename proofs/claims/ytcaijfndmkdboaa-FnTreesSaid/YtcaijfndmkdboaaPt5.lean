/- Machine side of the laws of this seat: for each Go function that they reach, a Lean function and the proof that a call comes to just its answer. Written by a program of this session. -/
import Derived.Test.YtcaijfndmkdboaaPt0
import Derived.Test.YtcaijfndmkdboaaPt19
import Derived.Test.YtcaijfndmkdboaaPt22
import Derived.Test.YtcaijfndmkdboaaPt25
import Derived.Test.YtcaijfndmkdboaaPt27
import Derived.Test.YtcaijfndmkdboaaPt78
import Derived.Test.YtcaijfndmkdboaaPt80
namespace Go.Proofs.Ytcaijfndmkdboaa.T
open Go.RowKit Go.Proofs.YtcaijfndmkdboaaW.PrintWords Go.Proofs.YtcaijfndmkdboaaW.PrintLast Go.Proofs.YtcaijfndmkdboaaW.PrintMore
attribute [local go_sem] max2_int min2_int max_two min_two max_three min_three max_four min_four   -- for this text's walks alone
set_option linter.unusedVariables false
set_option linter.unusedSimpArgs false

/-! ### laws_FnTrees: function 5 -/
mutual
def laws_FnTrees.l0 : Nat → List Int → ByteArray → List ByteArray → Int → ByteArray → Int → Option (Bool)
  | 0, _, _, _, _, _, _ => none
  | k + 1, x1, x5, x6, x7, x8, x9 => if x9 < (x6.length : Int) then (if 0 ≤ x9 then ((impl_IsMatched.f k (rdOf ByteArray.empty x6 x9)).bind fun bt422 => (if bt422.2 = 0 then (if bt422.1 = true then (if ((rdOf ByteArray.empty x6 x9).size : Int) < 1 then (laws_FnTrees.j1 k x1 x5 x6 x7 x8 x9 true) else (if 0 < ((rdOf ByteArray.empty x6 x9).size : Int) then ((laws_a2Call.f (bt (rdOf ByteArray.empty x6 x9) 0)).bind fun t427 => (laws_FnTrees.j1 k x1 x5 x6 x7 x8 x9 ((((rdOf ByteArray.empty x6 x9).size : Int) == 1) == t427))) else (none))) else (laws_FnTrees.j1 k x1 x5 x6 x7 x8 x9 true)) else (laws_FnTrees.j1 k x1 x5 x6 x7 x8 x9 true))) else (none)) else (if x7 = 0 then (laws_FnTrees.j2 k x1 (x8.toList != x5.toList)) else (laws_FnTrees.j2 k x1 true))
def laws_FnTrees.j1 : Nat → List Int → ByteArray → List ByteArray → Int → ByteArray → Int → Bool → Option (Bool)
  | 0, _, _, _, _, _, _, _ => none
  | k + 1, x1, x5, x6, x7, x8, x9, x77 => if x77 = true then (some false) else (if 0 ≤ x9 then (if x9 < (x6.length : Int) then ((impl_PartnersOf.f k (rdOf ByteArray.empty x6 x9)).bind fun bt429 => (if bt429.2 = 0 then (if ((rdOf ByteArray.empty x6 x9).size : Int) > 1 then (if (bt429.1.length : Int) = ((rdOf ByteArray.empty x6 x9).size : Int) then (if 0 < (bt429.1.length : Int) then (if (rd bt429.1 0) = (wrap64 (((rdOf ByteArray.empty x6 x9).size : Int) - 1)) then (if x8.size + (rdOf ByteArray.empty x6 x9).size ≤ 9223372036854775807 then (laws_FnTrees.l0 k x1 x5 x6 x7 (x8 ++ (rdOf ByteArray.empty x6 x9)) (wrap64 (x9 + 1))) else (none)) else (some false)) else (none)) else (some false)) else (if x8.size + (rdOf ByteArray.empty x6 x9).size ≤ 9223372036854775807 then (laws_FnTrees.l0 k x1 x5 x6 x7 (x8 ++ (rdOf ByteArray.empty x6 x9)) (wrap64 (x9 + 1))) else (none))) else (some false))) else (none)) else (none))
def laws_FnTrees.j2 : Nat → List Int → Bool → Option (Bool)
  | 0, _, _ => none
  | k + 1, x1, x130 => if x130 = true then (some false) else ((spec_A2Word.f k x1 14).bind fun t439 => ((impl_ParentsOf.f k t439).bind fun bt440 => ((spec_PartnersOf.f k t439).bind fun bt444 => (if bt440.2 = 0 then (if bt444.2 = 0 then (laws_FnTrees.j3 k t439 bt440.1 bt444.1 ((bt440.1.length : Int) != (t439.size : Int))) else (laws_FnTrees.j3 k t439 bt440.1 bt444.1 true)) else (laws_FnTrees.j3 k t439 bt440.1 bt444.1 true)))))
def laws_FnTrees.j3 : Nat → ByteArray → List Int → List Int → Bool → Option (Bool)
  | 0, _, _, _, _ => none
  | k + 1, x14, x15, x17, x155 => if x155 = true then (some false) else (laws_FnTrees.l1 k x14 x15 x17 0 (-1))
def laws_FnTrees.l1 : Nat → ByteArray → List Int → List Int → Int → Int → Option (Bool)
  | 0, _, _, _, _, _ => none
  | k + 1, x14, x15, x17, x19, x20 => if x20 < (x14.size : Int) then ((impl_ChildrenOf.f k x14 x20).bind fun bt448 => (if bt448.2 = 0 then (if x20 ≥ 0 then (if 0 ≤ x20 then ((laws_a2Call.f (bt x14 x20)).bind fun t452 => (if t452 = true then (laws_FnTrees.j5 k x14 x15 x17 x19 x20 bt448.1 false) else (laws_FnTrees.j5 k x14 x15 x17 x19 x20 bt448.1 (decide ((bt448.1.length : Int) > 0))))) else (none)) else (laws_FnTrees.j5 k x14 x15 x17 x19 x20 bt448.1 false)) else (laws_FnTrees.j5 k x14 x15 x17 x19 x20 bt448.1 true))) else (some (x19 == (x14.size : Int)))
def laws_FnTrees.j5 : Nat → ByteArray → List Int → List Int → Int → Int → List Int → Bool → Option (Bool)
  | 0, _, _, _, _, _, _, _ => none
  | k + 1, x14, x15, x17, x19, x20, x21, x185 => if x185 = true then (some false) else (laws_FnTrees.l2 k x14 x15 x17 x19 x20 x21 0)
def laws_FnTrees.l2 : Nat → ByteArray → List Int → List Int → Int → Int → List Int → Int → Option (Bool)
  | 0, _, _, _, _, _, _, _ => none
  | k + 1, x14, x15, x17, x19, x20, x21, x23 => if x23 < (x21.length : Int) then (if 0 ≤ x23 then (if (rd x21 x23) < 0 then (some false) else (if (rd x21 x23) ≥ (x14.size : Int) then (some false) else (if 0 ≤ (rd x21 x23) then (if (rd x21 x23) < (x15.length : Int) then (if (rd x15 (rd x21 x23)) = x20 then (if x23 > 0 then (if 0 ≤ (wrap64 (x23 - 1)) then (if (wrap64 (x23 - 1)) < (x21.length : Int) then (if (rd x21 (wrap64 (x23 - 1))) ≥ (rd x21 x23) then (some false) else (if (rd x21 x23) ≤ x20 then (some false) else (if x20 ≥ 0 then (if 0 ≤ x20 then (if x20 < (x17.length : Int) then (if (rd x17 x20) ≥ 0 then (if (rd x21 x23) ≥ (rd x17 x20) then (some false) else (laws_FnTrees.l2 k x14 x15 x17 x19 x20 x21 (wrap64 (x23 + 1)))) else (laws_FnTrees.l2 k x14 x15 x17 x19 x20 x21 (wrap64 (x23 + 1)))) else (none)) else (none)) else (laws_FnTrees.l2 k x14 x15 x17 x19 x20 x21 (wrap64 (x23 + 1)))))) else (none)) else (none)) else (if (rd x21 x23) ≤ x20 then (some false) else (if x20 ≥ 0 then (if 0 ≤ x20 then (if x20 < (x17.length : Int) then (if (rd x17 x20) ≥ 0 then (if (rd x21 x23) ≥ (rd x17 x20) then (some false) else (laws_FnTrees.l2 k x14 x15 x17 x19 x20 x21 (wrap64 (x23 + 1)))) else (laws_FnTrees.l2 k x14 x15 x17 x19 x20 x21 (wrap64 (x23 + 1)))) else (none)) else (none)) else (laws_FnTrees.l2 k x14 x15 x17 x19 x20 x21 (wrap64 (x23 + 1)))))) else (some false)) else (none)) else (none)))) else (none)) else (laws_FnTrees.l1 k x14 x15 x17 (wrap64 (x19 + (x21.length : Int))) (wrap64 (x20 + 1)))
end
def laws_FnTrees.f (k : Nat) (l0 : List Int) (l1 : List Int) : Option (Bool) := (laws_a2Long.f l0 l1).bind fun t415 => (if t415 = true then (some true) else ((spec_A2Matched.f k l0 12).bind fun t416 => ((impl_FactorsOf.f k t416).bind fun bt417 => (laws_FnTrees.l0 k l1 t416 bt417.1 bt417.2 (⟨#[]⟩ : ByteArray) 0))))
theorem laws_FnTrees.mono_l : ∀ k, (∀ y0 y1 y2 y3 y4 y5, LeO (laws_FnTrees.l0 k y0 y1 y2 y3 y4 y5) (laws_FnTrees.l0 (k + 1) y0 y1 y2 y3 y4 y5)) ∧ (∀ y0 y1 y2 y3 y4 y5 y6, LeO (laws_FnTrees.j1 k y0 y1 y2 y3 y4 y5 y6) (laws_FnTrees.j1 (k + 1) y0 y1 y2 y3 y4 y5 y6)) ∧ (∀ y0 y1, LeO (laws_FnTrees.j2 k y0 y1) (laws_FnTrees.j2 (k + 1) y0 y1)) ∧ (∀ y0 y1 y2 y3, LeO (laws_FnTrees.j3 k y0 y1 y2 y3) (laws_FnTrees.j3 (k + 1) y0 y1 y2 y3)) ∧ (∀ y0 y1 y2 y3 y4, LeO (laws_FnTrees.l1 k y0 y1 y2 y3 y4) (laws_FnTrees.l1 (k + 1) y0 y1 y2 y3 y4)) ∧ (∀ y0 y1 y2 y3 y4 y5 y6, LeO (laws_FnTrees.j5 k y0 y1 y2 y3 y4 y5 y6) (laws_FnTrees.j5 (k + 1) y0 y1 y2 y3 y4 y5 y6)) ∧ (∀ y0 y1 y2 y3 y4 y5 y6, LeO (laws_FnTrees.l2 k y0 y1 y2 y3 y4 y5 y6) (laws_FnTrees.l2 (k + 1) y0 y1 y2 y3 y4 y5 y6))
  | 0 => ⟨fun _ _ _ _ _ _ r h => by simp [laws_FnTrees.l0] at h, fun _ _ _ _ _ _ _ r h => by simp [laws_FnTrees.j1] at h, fun _ _ r h => by simp [laws_FnTrees.j2] at h, fun _ _ _ _ r h => by simp [laws_FnTrees.j3] at h, fun _ _ _ _ _ r h => by simp [laws_FnTrees.l1] at h, fun _ _ _ _ _ _ _ r h => by simp [laws_FnTrees.j5] at h, fun _ _ _ _ _ _ _ r h => by simp [laws_FnTrees.l2] at h⟩
  | k + 1 => by
    obtain ⟨ih0, ih1, ih2, ih3, ih4, ih5, ih6⟩ := laws_FnTrees.mono_l k
    refine ⟨?_, ?_, ?_, ?_, ?_, ?_, ?_⟩
    · intro y0 y1 y2 y3 y4 y5
      unfold laws_FnTrees.l0
      repeat' first
      | (with_reducible exact ih0 _ _ _ _ _ _)
      | (with_reducible exact ih1 _ _ _ _ _ _ _)
      | (with_reducible exact ih2 _ _)
      | (with_reducible exact ih3 _ _ _ _)
      | (with_reducible exact ih4 _ _ _ _ _)
      | (with_reducible exact ih5 _ _ _ _ _ _ _)
      | (with_reducible exact ih6 _ _ _ _ _ _ _)
      | (with_reducible exact impl_ChildrenOf.mono _ _ _)
      | (with_reducible exact impl_FactorsOf.mono _ _)
      | (with_reducible exact impl_IsMatched.mono _ _)
      | (with_reducible exact impl_ParentsOf.mono _ _)
      | (with_reducible exact impl_PartnersOf.mono _ _)
      | (with_reducible exact spec_A2Matched.mono _ _ _)
      | (with_reducible exact spec_A2Word.mono _ _ _)
      | (with_reducible exact spec_PartnersOf.mono _ _)
      | (with_reducible exact LeO.refl _)
      | (with_reducible exact LeO.none _)
      | (with_reducible refine LeO.ite ?_ ?_)
      | (with_reducible refine LeO.bind ?_ (fun _ => ?_))
      | exact ih0 _ _ _ _ _ _
      | exact ih1 _ _ _ _ _ _ _
      | exact ih2 _ _
      | exact ih3 _ _ _ _
      | exact ih4 _ _ _ _ _
      | exact ih5 _ _ _ _ _ _ _
      | exact ih6 _ _ _ _ _ _ _
      | exact impl_ChildrenOf.mono _ _ _
      | exact impl_FactorsOf.mono _ _
      | exact impl_IsMatched.mono _ _
      | exact impl_ParentsOf.mono _ _
      | exact impl_PartnersOf.mono _ _
      | exact spec_A2Matched.mono _ _ _
      | exact spec_A2Word.mono _ _ _
      | exact spec_PartnersOf.mono _ _
      | exact LeO.none _
      | refine LeO.ite ?_ ?_
      | refine LeO.bind ?_ (fun _ => ?_)
    · intro y0 y1 y2 y3 y4 y5 y6
      unfold laws_FnTrees.j1
      repeat' first
      | (with_reducible exact ih0 _ _ _ _ _ _)
      | (with_reducible exact ih1 _ _ _ _ _ _ _)
      | (with_reducible exact ih2 _ _)
      | (with_reducible exact ih3 _ _ _ _)
      | (with_reducible exact ih4 _ _ _ _ _)
      | (with_reducible exact ih5 _ _ _ _ _ _ _)
      | (with_reducible exact ih6 _ _ _ _ _ _ _)
      | (with_reducible exact impl_ChildrenOf.mono _ _ _)
      | (with_reducible exact impl_FactorsOf.mono _ _)
      | (with_reducible exact impl_IsMatched.mono _ _)
      | (with_reducible exact impl_ParentsOf.mono _ _)
      | (with_reducible exact impl_PartnersOf.mono _ _)
      | (with_reducible exact spec_A2Matched.mono _ _ _)
      | (with_reducible exact spec_A2Word.mono _ _ _)
      | (with_reducible exact spec_PartnersOf.mono _ _)
      | (with_reducible exact LeO.refl _)
      | (with_reducible exact LeO.none _)
      | (with_reducible refine LeO.ite ?_ ?_)
      | (with_reducible refine LeO.bind ?_ (fun _ => ?_))
      | exact ih0 _ _ _ _ _ _
      | exact ih1 _ _ _ _ _ _ _
      | exact ih2 _ _
      | exact ih3 _ _ _ _
      | exact ih4 _ _ _ _ _
      | exact ih5 _ _ _ _ _ _ _
      | exact ih6 _ _ _ _ _ _ _
      | exact impl_ChildrenOf.mono _ _ _
      | exact impl_FactorsOf.mono _ _
      | exact impl_IsMatched.mono _ _
      | exact impl_ParentsOf.mono _ _
      | exact impl_PartnersOf.mono _ _
      | exact spec_A2Matched.mono _ _ _
      | exact spec_A2Word.mono _ _ _
      | exact spec_PartnersOf.mono _ _
      | exact LeO.none _
      | refine LeO.ite ?_ ?_
      | refine LeO.bind ?_ (fun _ => ?_)
    · intro y0 y1
      unfold laws_FnTrees.j2
      repeat' first
      | (with_reducible exact ih0 _ _ _ _ _ _)
      | (with_reducible exact ih1 _ _ _ _ _ _ _)
      | (with_reducible exact ih2 _ _)
      | (with_reducible exact ih3 _ _ _ _)
      | (with_reducible exact ih4 _ _ _ _ _)
      | (with_reducible exact ih5 _ _ _ _ _ _ _)
      | (with_reducible exact ih6 _ _ _ _ _ _ _)
      | (with_reducible exact impl_ChildrenOf.mono _ _ _)
      | (with_reducible exact impl_FactorsOf.mono _ _)
      | (with_reducible exact impl_IsMatched.mono _ _)
      | (with_reducible exact impl_ParentsOf.mono _ _)
      | (with_reducible exact impl_PartnersOf.mono _ _)
      | (with_reducible exact spec_A2Matched.mono _ _ _)
      | (with_reducible exact spec_A2Word.mono _ _ _)
      | (with_reducible exact spec_PartnersOf.mono _ _)
      | (with_reducible exact LeO.refl _)
      | (with_reducible exact LeO.none _)
      | (with_reducible refine LeO.ite ?_ ?_)
      | (with_reducible refine LeO.bind ?_ (fun _ => ?_))
      | exact ih0 _ _ _ _ _ _
      | exact ih1 _ _ _ _ _ _ _
      | exact ih2 _ _
      | exact ih3 _ _ _ _
      | exact ih4 _ _ _ _ _
      | exact ih5 _ _ _ _ _ _ _
      | exact ih6 _ _ _ _ _ _ _
      | exact impl_ChildrenOf.mono _ _ _
      | exact impl_FactorsOf.mono _ _
      | exact impl_IsMatched.mono _ _
      | exact impl_ParentsOf.mono _ _
      | exact impl_PartnersOf.mono _ _
      | exact spec_A2Matched.mono _ _ _
      | exact spec_A2Word.mono _ _ _
      | exact spec_PartnersOf.mono _ _
      | exact LeO.none _
      | refine LeO.ite ?_ ?_
      | refine LeO.bind ?_ (fun _ => ?_)
    · intro y0 y1 y2 y3
      unfold laws_FnTrees.j3
      repeat' first
      | (with_reducible exact ih0 _ _ _ _ _ _)
      | (with_reducible exact ih1 _ _ _ _ _ _ _)
      | (with_reducible exact ih2 _ _)
      | (with_reducible exact ih3 _ _ _ _)
      | (with_reducible exact ih4 _ _ _ _ _)
      | (with_reducible exact ih5 _ _ _ _ _ _ _)
      | (with_reducible exact ih6 _ _ _ _ _ _ _)
      | (with_reducible exact impl_ChildrenOf.mono _ _ _)
      | (with_reducible exact impl_FactorsOf.mono _ _)
      | (with_reducible exact impl_IsMatched.mono _ _)
      | (with_reducible exact impl_ParentsOf.mono _ _)
      | (with_reducible exact impl_PartnersOf.mono _ _)
      | (with_reducible exact spec_A2Matched.mono _ _ _)
      | (with_reducible exact spec_A2Word.mono _ _ _)
      | (with_reducible exact spec_PartnersOf.mono _ _)
      | (with_reducible exact LeO.refl _)
      | (with_reducible exact LeO.none _)
      | (with_reducible refine LeO.ite ?_ ?_)
      | (with_reducible refine LeO.bind ?_ (fun _ => ?_))
      | exact ih0 _ _ _ _ _ _
      | exact ih1 _ _ _ _ _ _ _
      | exact ih2 _ _
      | exact ih3 _ _ _ _
      | exact ih4 _ _ _ _ _
      | exact ih5 _ _ _ _ _ _ _
      | exact ih6 _ _ _ _ _ _ _
      | exact impl_ChildrenOf.mono _ _ _
      | exact impl_FactorsOf.mono _ _
      | exact impl_IsMatched.mono _ _
      | exact impl_ParentsOf.mono _ _
      | exact impl_PartnersOf.mono _ _
      | exact spec_A2Matched.mono _ _ _
      | exact spec_A2Word.mono _ _ _
      | exact spec_PartnersOf.mono _ _
      | exact LeO.none _
      | refine LeO.ite ?_ ?_
      | refine LeO.bind ?_ (fun _ => ?_)
    · intro y0 y1 y2 y3 y4
      unfold laws_FnTrees.l1
      repeat' first
      | (with_reducible exact ih0 _ _ _ _ _ _)
      | (with_reducible exact ih1 _ _ _ _ _ _ _)
      | (with_reducible exact ih2 _ _)
      | (with_reducible exact ih3 _ _ _ _)
      | (with_reducible exact ih4 _ _ _ _ _)
      | (with_reducible exact ih5 _ _ _ _ _ _ _)
      | (with_reducible exact ih6 _ _ _ _ _ _ _)
      | (with_reducible exact impl_ChildrenOf.mono _ _ _)
      | (with_reducible exact impl_FactorsOf.mono _ _)
      | (with_reducible exact impl_IsMatched.mono _ _)
      | (with_reducible exact impl_ParentsOf.mono _ _)
      | (with_reducible exact impl_PartnersOf.mono _ _)
      | (with_reducible exact spec_A2Matched.mono _ _ _)
      | (with_reducible exact spec_A2Word.mono _ _ _)
      | (with_reducible exact spec_PartnersOf.mono _ _)
      | (with_reducible exact LeO.refl _)
      | (with_reducible exact LeO.none _)
      | (with_reducible refine LeO.ite ?_ ?_)
      | (with_reducible refine LeO.bind ?_ (fun _ => ?_))
      | exact ih0 _ _ _ _ _ _
      | exact ih1 _ _ _ _ _ _ _
      | exact ih2 _ _
      | exact ih3 _ _ _ _
      | exact ih4 _ _ _ _ _
      | exact ih5 _ _ _ _ _ _ _
      | exact ih6 _ _ _ _ _ _ _
      | exact impl_ChildrenOf.mono _ _ _
      | exact impl_FactorsOf.mono _ _
      | exact impl_IsMatched.mono _ _
      | exact impl_ParentsOf.mono _ _
      | exact impl_PartnersOf.mono _ _
      | exact spec_A2Matched.mono _ _ _
      | exact spec_A2Word.mono _ _ _
      | exact spec_PartnersOf.mono _ _
      | exact LeO.none _
      | refine LeO.ite ?_ ?_
      | refine LeO.bind ?_ (fun _ => ?_)
    · intro y0 y1 y2 y3 y4 y5 y6
      unfold laws_FnTrees.j5
      repeat' first
      | (with_reducible exact ih0 _ _ _ _ _ _)
      | (with_reducible exact ih1 _ _ _ _ _ _ _)
      | (with_reducible exact ih2 _ _)
      | (with_reducible exact ih3 _ _ _ _)
      | (with_reducible exact ih4 _ _ _ _ _)
      | (with_reducible exact ih5 _ _ _ _ _ _ _)
      | (with_reducible exact ih6 _ _ _ _ _ _ _)
      | (with_reducible exact impl_ChildrenOf.mono _ _ _)
      | (with_reducible exact impl_FactorsOf.mono _ _)
      | (with_reducible exact impl_IsMatched.mono _ _)
      | (with_reducible exact impl_ParentsOf.mono _ _)
      | (with_reducible exact impl_PartnersOf.mono _ _)
      | (with_reducible exact spec_A2Matched.mono _ _ _)
      | (with_reducible exact spec_A2Word.mono _ _ _)
      | (with_reducible exact spec_PartnersOf.mono _ _)
      | (with_reducible exact LeO.refl _)
      | (with_reducible exact LeO.none _)
      | (with_reducible refine LeO.ite ?_ ?_)
      | (with_reducible refine LeO.bind ?_ (fun _ => ?_))
      | exact ih0 _ _ _ _ _ _
      | exact ih1 _ _ _ _ _ _ _
      | exact ih2 _ _
      | exact ih3 _ _ _ _
      | exact ih4 _ _ _ _ _
      | exact ih5 _ _ _ _ _ _ _
      | exact ih6 _ _ _ _ _ _ _
      | exact impl_ChildrenOf.mono _ _ _
      | exact impl_FactorsOf.mono _ _
      | exact impl_IsMatched.mono _ _
      | exact impl_ParentsOf.mono _ _
      | exact impl_PartnersOf.mono _ _
      | exact spec_A2Matched.mono _ _ _
      | exact spec_A2Word.mono _ _ _
      | exact spec_PartnersOf.mono _ _
      | exact LeO.none _
      | refine LeO.ite ?_ ?_
      | refine LeO.bind ?_ (fun _ => ?_)
    · intro y0 y1 y2 y3 y4 y5 y6
      unfold laws_FnTrees.l2
      repeat' first
      | (with_reducible exact ih0 _ _ _ _ _ _)
      | (with_reducible exact ih1 _ _ _ _ _ _ _)
      | (with_reducible exact ih2 _ _)
      | (with_reducible exact ih3 _ _ _ _)
      | (with_reducible exact ih4 _ _ _ _ _)
      | (with_reducible exact ih5 _ _ _ _ _ _ _)
      | (with_reducible exact ih6 _ _ _ _ _ _ _)
      | (with_reducible exact impl_ChildrenOf.mono _ _ _)
      | (with_reducible exact impl_FactorsOf.mono _ _)
      | (with_reducible exact impl_IsMatched.mono _ _)
      | (with_reducible exact impl_ParentsOf.mono _ _)
      | (with_reducible exact impl_PartnersOf.mono _ _)
      | (with_reducible exact spec_A2Matched.mono _ _ _)
      | (with_reducible exact spec_A2Word.mono _ _ _)
      | (with_reducible exact spec_PartnersOf.mono _ _)
      | (with_reducible exact LeO.refl _)
      | (with_reducible exact LeO.none _)
      | (with_reducible refine LeO.ite ?_ ?_)
      | (with_reducible refine LeO.bind ?_ (fun _ => ?_))
      | exact ih0 _ _ _ _ _ _
      | exact ih1 _ _ _ _ _ _ _
      | exact ih2 _ _
      | exact ih3 _ _ _ _
      | exact ih4 _ _ _ _ _
      | exact ih5 _ _ _ _ _ _ _
      | exact ih6 _ _ _ _ _ _ _
      | exact impl_ChildrenOf.mono _ _ _
      | exact impl_FactorsOf.mono _ _
      | exact impl_IsMatched.mono _ _
      | exact impl_ParentsOf.mono _ _
      | exact impl_PartnersOf.mono _ _
      | exact spec_A2Matched.mono _ _ _
      | exact spec_A2Word.mono _ _ _
      | exact spec_PartnersOf.mono _ _
      | exact LeO.none _
      | refine LeO.ite ?_ ?_
      | refine LeO.bind ?_ (fun _ => ?_)
theorem laws_FnTrees.mono : ∀ a0 a1 k, LeO (laws_FnTrees.f k a0 a1) (laws_FnTrees.f (k + 1) a0 a1) := by
  intro a0 a1 k
  obtain ⟨ih0, ih1, ih2, ih3, ih4, ih5, ih6⟩ := laws_FnTrees.mono_l k
  unfold laws_FnTrees.f
  repeat' first
      | (with_reducible exact ih0 _ _ _ _ _ _)
      | (with_reducible exact ih1 _ _ _ _ _ _ _)
      | (with_reducible exact ih2 _ _)
      | (with_reducible exact ih3 _ _ _ _)
      | (with_reducible exact ih4 _ _ _ _ _)
      | (with_reducible exact ih5 _ _ _ _ _ _ _)
      | (with_reducible exact ih6 _ _ _ _ _ _ _)
      | (with_reducible exact impl_ChildrenOf.mono _ _ _)
      | (with_reducible exact impl_FactorsOf.mono _ _)
      | (with_reducible exact impl_IsMatched.mono _ _)
      | (with_reducible exact impl_ParentsOf.mono _ _)
      | (with_reducible exact impl_PartnersOf.mono _ _)
      | (with_reducible exact spec_A2Matched.mono _ _ _)
      | (with_reducible exact spec_A2Word.mono _ _ _)
      | (with_reducible exact spec_PartnersOf.mono _ _)
      | (with_reducible exact LeO.refl _)
      | (with_reducible exact LeO.none _)
      | (with_reducible refine LeO.ite ?_ ?_)
      | (with_reducible refine LeO.bind ?_ (fun _ => ?_))
      | exact ih0 _ _ _ _ _ _
      | exact ih1 _ _ _ _ _ _ _
      | exact ih2 _ _
      | exact ih3 _ _ _ _
      | exact ih4 _ _ _ _ _
      | exact ih5 _ _ _ _ _ _ _
      | exact ih6 _ _ _ _ _ _ _
      | exact impl_ChildrenOf.mono _ _ _
      | exact impl_FactorsOf.mono _ _
      | exact impl_IsMatched.mono _ _
      | exact impl_ParentsOf.mono _ _
      | exact impl_PartnersOf.mono _ _
      | exact spec_A2Matched.mono _ _ _
      | exact spec_A2Word.mono _ _ _
      | exact spec_PartnersOf.mono _ _
      | exact LeO.none _
      | refine LeO.ite ?_ ?_
      | refine LeO.bind ?_ (fun _ => ?_)
set_option maxHeartbeats 8000000 in
set_option maxRecDepth 100000 in
theorem laws_FnTrees.calls (k : Nat) (A0 : Option Addr) (c0 : Nat) (l0 : List Int) (A1 : Option Addr) (c1 : Nat) (l1 : List Int) (r : Bool) (w : World) (hr0 : Kd.C (Kd.int .u8) w A0 l0.length l0) (hc0 : l0.length ≤ c0) (hr1 : Kd.C (Kd.int .u8) w A1 l1.length l1) (hc1 : l1.length ≤ c1) (h : laws_FnTrees.f k l0 l1 = some r) :
    Calls Try.prog 5 #[.slice A0 l0.length c0, .slice A1 l1.length c1] w fun e w' => e = .returned (.bool r) ∧ Below w.heap.size w w' := by
  have HR0 := Aside0.mk hr0
  have HC0 := Aside0.mk hc0
  clear hr0 hc0
  have HR1 := Aside0.mk hr1
  have HC1 := Aside0.mk hc1
  clear hr1 hc1
  have HB := Aside0.mk (Below.refl w.heap.size w)
  have H : ((laws_a2Long.f l0 l1).bind fun t415 => (if t415 = true then (some true) else ((spec_A2Matched.f k l0 12).bind fun t416 => ((impl_FactorsOf.f k t416).bind fun bt417 => (laws_FnTrees.l0 k l1 t416 bt417.1 bt417.2 (⟨#[]⟩ : ByteArray) 0))))) = some r := h
  clear h
  replace H := Option.bind_eq_some_iff.mp H
  obtain ⟨t415, A30, H⟩ := H
  replace H : (if t415 = true then (some true) else ((spec_A2Matched.f k l0 12).bind fun t416 => ((impl_FactorsOf.f k t416).bind fun bt417 => (laws_FnTrees.l0 k l1 t416 bt417.1 bt417.2 (⟨#[]⟩ : ByteArray) 0)))) = some r := H
  have A3 := Aside0.mk A30
  clear A30
  by_cases c4 : t415 = true
  · subst c4
    have H1 : (some true) = some r := by rw [if_pos rfl] at H; exact H
    clear H
    have H := H1
    clear H1
    obtain rfl := Option.some.inj H
    go_enter Try.func5, Try.ntmps5
    go_wp2_with (first | (go_at_call 19; (with_reducible refine (laws_a2Long.calls _ _ l0 _ _ l1 true _ ?side1 ?side2 ?side3 ?side4 A3.out).mono ?_); (case side1 => repeat (first | exact HR0.out | (with_reducible refine Kd.C_alloc ?_ _) | (with_reducible refine Kd.C_drewN ?_ _) | (with_reducible refine Kd.C_drew ?_))); (case side2 => exact HC0.out); (case side3 => repeat (first | exact HR1.out | (with_reducible refine Kd.C_alloc ?_ _) | (with_reducible refine Kd.C_drewN ?_ _) | (with_reducible refine Kd.C_drew ?_))); (case side4 => exact HC1.out); rintro e w' ⟨rfl, ⟨nd, rfl⟩⟩; (try first | exact ⟨rfl, _, World.drewN_drewN _ _ _⟩ | exact ⟨rfl, _, Eq.trans (World.drewN_drewN _ _ _) (congrArg (World.drewN _) (Nat.add_assoc _ _ _))⟩)))
    repeat (go_quiet (first | (go_at_call 19; (with_reducible refine (laws_a2Long.calls _ _ l0 _ _ l1 true _ ?side1 ?side2 ?side3 ?side4 A3.out).mono ?_); (case side1 => repeat (first | exact HR0.out | (with_reducible refine Kd.C_alloc ?_ _) | (with_reducible refine Kd.C_drewN ?_ _) | (with_reducible refine Kd.C_drew ?_))); (case side2 => exact HC0.out); (case side3 => repeat (first | exact HR1.out | (with_reducible refine Kd.C_alloc ?_ _) | (with_reducible refine Kd.C_drewN ?_ _) | (with_reducible refine Kd.C_drew ?_))); (case side4 => exact HC1.out); rintro e w' ⟨rfl, ⟨nd, rfl⟩⟩; (try first | exact ⟨rfl, _, World.drewN_drewN _ _ _⟩ | exact ⟨rfl, _, Eq.trans (World.drewN_drewN _ _ _) (congrArg (World.drewN _) (Nat.add_assoc _ _ _))⟩))); try go_wp2_with (first | (go_at_call 19; (with_reducible refine (laws_a2Long.calls _ _ l0 _ _ l1 true _ ?side1 ?side2 ?side3 ?side4 A3.out).mono ?_); (case side1 => repeat (first | exact HR0.out | (with_reducible refine Kd.C_alloc ?_ _) | (with_reducible refine Kd.C_drewN ?_ _) | (with_reducible refine Kd.C_drew ?_))); (case side2 => exact HC0.out); (case side3 => repeat (first | exact HR1.out | (with_reducible refine Kd.C_alloc ?_ _) | (with_reducible refine Kd.C_drewN ?_ _) | (with_reducible refine Kd.C_drew ?_))); (case side4 => exact HC1.out); rintro e w' ⟨rfl, ⟨nd, rfl⟩⟩; (try first | exact ⟨rfl, _, World.drewN_drewN _ _ _⟩ | exact ⟨rfl, _, Eq.trans (World.drewN_drewN _ _ _) (congrArg (World.drewN _) (Nat.add_assoc _ _ _))⟩))))
    go_ret
    exact ⟨by first | rfl | (simp [errW_none, errW_some] <;> rfl) | (simp [*, errW_none, errW_some] <;> rfl), by repeat (first | (with_reducible first | exact HB.out | apply below_alloc | apply pw_below_drewN | apply below_drew1) | exact HB.out)⟩
  · as_aux_lemma =>
    replace c4 := Bool.eq_false_iff.mpr c4
    subst c4
    have H1 : ((spec_A2Matched.f k l0 12).bind fun t416 => ((impl_FactorsOf.f k t416).bind fun bt417 => (laws_FnTrees.l0 k l1 t416 bt417.1 bt417.2 (⟨#[]⟩ : ByteArray) 0))) = some r := by rw [if_neg (show ¬ (false = true) by decide)] at H; exact H
    clear H
    have H := H1
    clear H1
    replace H := Option.bind_eq_some_iff.mp H
    obtain ⟨t416, A50, H⟩ := H
    replace H : ((impl_FactorsOf.f k t416).bind fun bt417 => (laws_FnTrees.l0 k l1 t416 bt417.1 bt417.2 (⟨#[]⟩ : ByteArray) 0)) = some r := H
    have A5 := Aside0.mk A50
    clear A50
    replace H := Option.bind_eq_some_iff.mp H
    obtain ⟨⟨t417, t418⟩, A60, H⟩ := H
    replace H : (laws_FnTrees.l0 k l1 t416 t417 t418 (⟨#[]⟩ : ByteArray) 0) = some r := H
    have A6 := Aside0.mk A60
    clear A60
    have H' := Aside0.mk H
    clear H
    go_enter Try.func5, Try.ntmps5
    go_wp2_with (first | (go_at_call 19; (with_reducible refine (laws_a2Long.calls _ _ l0 _ _ l1 false _ ?side1 ?side2 ?side3 ?side4 A3.out).mono ?_); (case side1 => repeat (first | exact HR0.out | (with_reducible refine Kd.C_alloc ?_ _) | (with_reducible refine Kd.C_drewN ?_ _) | (with_reducible refine Kd.C_drew ?_))); (case side2 => exact HC0.out); (case side3 => repeat (first | exact HR1.out | (with_reducible refine Kd.C_alloc ?_ _) | (with_reducible refine Kd.C_drewN ?_ _) | (with_reducible refine Kd.C_drew ?_))); (case side4 => exact HC1.out); rintro e w' ⟨rfl, ⟨nd, rfl⟩⟩; (try first | exact ⟨rfl, _, World.drewN_drewN _ _ _⟩ | exact ⟨rfl, _, Eq.trans (World.drewN_drewN _ _ _) (congrArg (World.drewN _) (Nat.add_assoc _ _ _))⟩)) | (go_at_call 20; (with_reducible refine (spec_A2Matched.calls k _ _ l0 12 t416 _ ?side1 ?side2 A5.out).mono ?_); (case side1 => repeat (first | exact HR0.out | (with_reducible refine Kd.C_alloc ?_ _) | (with_reducible refine Kd.C_drewN ?_ _) | (with_reducible refine Kd.C_drew ?_))); (case side2 => exact HC0.out); rintro e w7 ⟨rfl, hb⟩; have n0_ := Aside0.mk (below_step (by repeat (first | (with_reducible first | exact HB.out | apply below_alloc | apply pw_below_drewN | apply below_drew1) | exact HB.out)) hb); clear HB; have HB := n0_; clear n0_; (try clear hb); (try clear hb2); (try clear hk); (try clear hi)) | (go_at_call 21; (with_reducible refine (impl_FactorsOf.calls k t416 t417 t418 _ A6.out).mono ?_); rintro e w8 ⟨v419, rfl, ho0, hb⟩; have n0_ := Aside0.mk (Kd.R_lower ho0 (below_size (by repeat (first | (with_reducible first | exact HB.out | apply below_alloc | apply pw_below_drewN | apply below_drew1) | exact HB.out)))); have n1_ := Aside0.mk (below_step (by repeat (first | (with_reducible first | exact HB.out | apply below_alloc | apply pw_below_drewN | apply below_drew1) | exact HB.out)) hb); clear HB; have HO420 := n0_; have HB := n1_; clear n0_ n1_; (try clear hb); (try clear hb2); (try clear hk); (try clear hi); (try clear ho0)))
    repeat (go_quiet (first | (go_at_call 19; (with_reducible refine (laws_a2Long.calls _ _ l0 _ _ l1 false _ ?side1 ?side2 ?side3 ?side4 A3.out).mono ?_); (case side1 => repeat (first | exact HR0.out | (with_reducible refine Kd.C_alloc ?_ _) | (with_reducible refine Kd.C_drewN ?_ _) | (with_reducible refine Kd.C_drew ?_))); (case side2 => exact HC0.out); (case side3 => repeat (first | exact HR1.out | (with_reducible refine Kd.C_alloc ?_ _) | (with_reducible refine Kd.C_drewN ?_ _) | (with_reducible refine Kd.C_drew ?_))); (case side4 => exact HC1.out); rintro e w' ⟨rfl, ⟨nd, rfl⟩⟩; (try first | exact ⟨rfl, _, World.drewN_drewN _ _ _⟩ | exact ⟨rfl, _, Eq.trans (World.drewN_drewN _ _ _) (congrArg (World.drewN _) (Nat.add_assoc _ _ _))⟩)) | (go_at_call 20; (with_reducible refine (spec_A2Matched.calls k _ _ l0 12 t416 _ ?side1 ?side2 A5.out).mono ?_); (case side1 => repeat (first | exact HR0.out | (with_reducible refine Kd.C_alloc ?_ _) | (with_reducible refine Kd.C_drewN ?_ _) | (with_reducible refine Kd.C_drew ?_))); (case side2 => exact HC0.out); rintro e w7 ⟨rfl, hb⟩; have n0_ := Aside0.mk (below_step (by repeat (first | (with_reducible first | exact HB.out | apply below_alloc | apply pw_below_drewN | apply below_drew1) | exact HB.out)) hb); clear HB; have HB := n0_; clear n0_; (try clear hb); (try clear hb2); (try clear hk); (try clear hi)) | (go_at_call 21; (with_reducible refine (impl_FactorsOf.calls k t416 t417 t418 _ A6.out).mono ?_); rintro e w8 ⟨v419, rfl, ho0, hb⟩; have n0_ := Aside0.mk (Kd.R_lower ho0 (below_size (by repeat (first | (with_reducible first | exact HB.out | apply below_alloc | apply pw_below_drewN | apply below_drew1) | exact HB.out)))); have n1_ := Aside0.mk (below_step (by repeat (first | (with_reducible first | exact HB.out | apply below_alloc | apply pw_below_drewN | apply below_drew1) | exact HB.out)) hb); clear HB; have HO420 := n0_; have HB := n1_; clear n0_ n1_; (try clear hb); (try clear hb2); (try clear hk); (try clear hi); (try clear ho0))); try go_wp2_with (first | (go_at_call 19; (with_reducible refine (laws_a2Long.calls _ _ l0 _ _ l1 false _ ?side1 ?side2 ?side3 ?side4 A3.out).mono ?_); (case side1 => repeat (first | exact HR0.out | (with_reducible refine Kd.C_alloc ?_ _) | (with_reducible refine Kd.C_drewN ?_ _) | (with_reducible refine Kd.C_drew ?_))); (case side2 => exact HC0.out); (case side3 => repeat (first | exact HR1.out | (with_reducible refine Kd.C_alloc ?_ _) | (with_reducible refine Kd.C_drewN ?_ _) | (with_reducible refine Kd.C_drew ?_))); (case side4 => exact HC1.out); rintro e w' ⟨rfl, ⟨nd, rfl⟩⟩; (try first | exact ⟨rfl, _, World.drewN_drewN _ _ _⟩ | exact ⟨rfl, _, Eq.trans (World.drewN_drewN _ _ _) (congrArg (World.drewN _) (Nat.add_assoc _ _ _))⟩)) | (go_at_call 20; (with_reducible refine (spec_A2Matched.calls k _ _ l0 12 t416 _ ?side1 ?side2 A5.out).mono ?_); (case side1 => repeat (first | exact HR0.out | (with_reducible refine Kd.C_alloc ?_ _) | (with_reducible refine Kd.C_drewN ?_ _) | (with_reducible refine Kd.C_drew ?_))); (case side2 => exact HC0.out); rintro e w7 ⟨rfl, hb⟩; have n0_ := Aside0.mk (below_step (by repeat (first | (with_reducible first | exact HB.out | apply below_alloc | apply pw_below_drewN | apply below_drew1) | exact HB.out)) hb); clear HB; have HB := n0_; clear n0_; (try clear hb); (try clear hb2); (try clear hk); (try clear hi)) | (go_at_call 21; (with_reducible refine (impl_FactorsOf.calls k t416 t417 t418 _ A6.out).mono ?_); rintro e w8 ⟨v419, rfl, ho0, hb⟩; have n0_ := Aside0.mk (Kd.R_lower ho0 (below_size (by repeat (first | (with_reducible first | exact HB.out | apply below_alloc | apply pw_below_drewN | apply below_drew1) | exact HB.out)))); have n1_ := Aside0.mk (below_step (by repeat (first | (with_reducible first | exact HB.out | apply below_alloc | apply pw_below_drewN | apply below_drew1) | exact HB.out)) hb); clear HB; have HO420 := n0_; have HB := n1_; clear n0_ n1_; (try clear hb); (try clear hb2); (try clear hk); (try clear hi); (try clear ho0))))
    go_loopg [8, 9] k (fun kq v8 v9 w' => ∃ (x8_1 : ByteArray) (x9_1 : Int), v8 = .string x8_1 ∧ v9 = .int .i64 x9_1 ∧ Aside0 (laws_FnTrees.l0 kq l1 t416 t417 t418 x8_1 x9_1 = some r) ∧ Aside0 (kq ≤ k) ∧ Aside0 (Kd.R Kd.string 9 w' w.heap.size (fun _ => True) v419 t417) ∧ Aside0 (Below w.heap.size w w'))
    case atStart => exact ⟨((⟨#[]⟩ : ByteArray)), (0), (by first | rfl | (simp; done) | (simp [*]; done)), (by first | rfl | (simp; done) | (simp [*]; done)), H', ⟨Nat.le_refl _⟩, ⟨by (with_reducible repeat (first | apply Kd.R_alloc | apply Kd.R_drewN | apply Kd.R_drew)); exact HO420.out⟩, ⟨by repeat (first | (with_reducible first | exact HB.out | apply below_alloc | apply pw_below_drewN | apply below_drew1) | exact HB.out)⟩⟩
    case round =>
      clear H'
      try clear c1
      try clear p2
      try clear c4
      try clear c5
      obtain ⟨x8_1, x9_1, rfl, rfl, HA, HK1, HO_6, HB⟩ := hrel
      cases gk with
      | zero => exact absurd HA.out (by simp [laws_FnTrees.l0])
      | succ k1 =>
        have H := HA.out
        clear HA
        simp only [laws_FnTrees.l0] at H
        by_cases c9 : x9_1 < (t417.length : Int)
        · as_aux_lemma =>
          rw [if_pos c9] at H
          have c9b0 : decide (x9_1 < (t417.length : Int)) = true := decide_eq_true c9
          clear c9
          by_cases c10 : 0 ≤ x9_1
          · as_aux_lemma =>
            rw [if_pos c10] at H
            have c10b0 : decide (0 ≤ x9_1) = true := decide_eq_true c10
            clear c10
            replace H := Option.bind_eq_some_iff.mp H
            obtain ⟨⟨t422, t423⟩, A110, H⟩ := H
            replace H : (if t423 = 0 then (if t422 = true then (if ((rdOf ByteArray.empty t417 x9_1).size : Int) < 1 then (laws_FnTrees.j1 k1 l1 t416 t417 t418 x8_1 x9_1 true) else (if 0 < ((rdOf ByteArray.empty t417 x9_1).size : Int) then ((laws_a2Call.f (bt (rdOf ByteArray.empty t417 x9_1) 0)).bind fun t427 => (laws_FnTrees.j1 k1 l1 t416 t417 t418 x8_1 x9_1 ((((rdOf ByteArray.empty t417 x9_1).size : Int) == 1) == t427))) else (none))) else (laws_FnTrees.j1 k1 l1 t416 t417 t418 x8_1 x9_1 true)) else (laws_FnTrees.j1 k1 l1 t416 t417 t418 x8_1 x9_1 true)) = some r := H
            have A11 := Aside0.mk A110
            clear A110
            have HC12 := Aside0.mk H
            clear H
            obtain ⟨Ao13, co13, eo13⟩ := Kd.R_slice HO_6.out
            subst eo13
            have p421 : 0 ≤ (x9_1 : Int) := of_decide_eq_true (by first | (with_reducible assumption) | assumption)
            have q421 : x9_1 < (t417.length : Int) := of_decide_eq_true (by first | (with_reducible assumption) | assumption)
            obtain ⟨ad421, e421, hx421_0⟩ := Kd.at_string (Kd.R_reads' HO_6.out).2.2 x9_1 p421 q421
            cases e421
            replace p421 := eq_true p421
            replace q421 := eq_true q421
            go_upto_region 10 with (first | (go_at_call 22; (with_reducible refine (impl_IsMatched.calls k1 (rdOf ByteArray.empty t417 x9_1) t422 t423 _ A11.out).mono ?_); rintro e w14 ⟨rfl, hb⟩; have n0_ := Aside0.mk (Kd.R_below (by (with_reducible repeat (first | apply Kd.R_alloc | apply Kd.R_drewN | apply Kd.R_drew)); exact HO_6.out) hb); have n1_ := Aside0.mk (below_step (by repeat (first | (with_reducible first | exact HB.out | apply below_alloc | apply pw_below_drewN | apply below_drew1) | exact HB.out)) hb); clear HO_6; clear HB; have HO_6 := n0_; have HB := n1_; clear n0_ n1_; (try clear hb); (try clear hb2); (try clear hk); (try clear hi)))
            repeat (go_quiet (first | (go_at_call 22; (with_reducible refine (impl_IsMatched.calls k1 (rdOf ByteArray.empty t417 x9_1) t422 t423 _ A11.out).mono ?_); rintro e w14 ⟨rfl, hb⟩; have n0_ := Aside0.mk (Kd.R_below (by (with_reducible repeat (first | apply Kd.R_alloc | apply Kd.R_drewN | apply Kd.R_drew)); exact HO_6.out) hb); have n1_ := Aside0.mk (below_step (by repeat (first | (with_reducible first | exact HB.out | apply below_alloc | apply pw_below_drewN | apply below_drew1) | exact HB.out)) hb); clear HO_6; clear HB; have HO_6 := n0_; have HB := n1_; clear n0_ n1_; (try clear hb); (try clear hb2); (try clear hk); (try clear hi))); go_upto_region 10 with (first | (go_at_call 22; (with_reducible refine (impl_IsMatched.calls k1 (rdOf ByteArray.empty t417 x9_1) t422 t423 _ A11.out).mono ?_); rintro e w14 ⟨rfl, hb⟩; have n0_ := Aside0.mk (Kd.R_below (by (with_reducible repeat (first | apply Kd.R_alloc | apply Kd.R_drewN | apply Kd.R_drew)); exact HO_6.out) hb); have n1_ := Aside0.mk (below_step (by repeat (first | (with_reducible first | exact HB.out | apply below_alloc | apply pw_below_drewN | apply below_drew1) | exact HB.out)) hb); clear HO_6; clear HB; have HO_6 := n0_; have HB := n1_; clear n0_ n1_; (try clear hb); (try clear hb2); (try clear hk); (try clear hi))))
            (try simp only [Act.put, List.setIfInBounds_toArray, List.set_cons_zero, List.set_cons_succ])
            go_cut [77] (fun v77 wc => ∃ (kq : Nat) (x77_11 : Bool), v77 = .bool x77_11 ∧ Aside0 (laws_FnTrees.j1 kq l1 t416 t417 t418 x8_1 x9_1 x77_11 = some r) ∧ Aside0 (kq ≤ k1) ∧ Aside0 (Kd.R Kd.string 9 wc w.heap.size (fun _ => True) (.slice (some ad421) t417.length co13) t417) ∧ Aside0 (Below w.heap.size w wc))
            case first =>
              have H := HC12.out
              clear HC12
              by_cases c15 : t423 = 0
              · rw [if_pos c15] at H
                have c15b0 : (t423 == 0) = true := beq_iff_eq.mpr c15
                have c15b1 : (t423 != 0) = false := bne_eq_false_iff_eq.mpr c15
                clear c15
                (first | rw [c15b0] | rw [c15b1] | (simp only [i64_w, i32_w]; rw [c15b0]) | skip)
                by_cases c16 : t422 = true
                · subst c16
                  have H1 : (if ((rdOf ByteArray.empty t417 x9_1).size : Int) < 1 then (laws_FnTrees.j1 k1 l1 t416 t417 t418 x8_1 x9_1 true) else (if 0 < ((rdOf ByteArray.empty t417 x9_1).size : Int) then ((laws_a2Call.f (bt (rdOf ByteArray.empty t417 x9_1) 0)).bind fun t427 => (laws_FnTrees.j1 k1 l1 t416 t417 t418 x8_1 x9_1 ((((rdOf ByteArray.empty t417 x9_1).size : Int) == 1) == t427))) else (none))) = some r := by rw [if_pos rfl] at H; exact H
                  clear H
                  have H := H1
                  clear H1
                  by_cases c17 : ((rdOf ByteArray.empty t417 x9_1).size : Int) < 1
                  · rw [if_pos c17] at H
                    have c17b0 : decide (((rdOf ByteArray.empty t417 x9_1).size : Int) < 1) = true := decide_eq_true c17
                    have c17b1 : decide ((rdOf ByteArray.empty t417 x9_1).size < 1) = true := decide_eq_true (by omega)
                    clear c17
                    have H' := Aside0.mk H
                    clear H
                    have p424 : 0 ≤ (x9_1 : Int) := of_decide_eq_true (by first | (with_reducible assumption) | assumption)
                    have q424 : x9_1 < (t417.length : Int) := of_decide_eq_true (by first | (with_reducible assumption) | assumption)
                    obtain ⟨ad424, e424, hx424_0⟩ := Kd.at_string (Kd.R_reads' HO_6.out).2.2 x9_1 p424 q424
                    obtain rfl : ad421 = ad424 := (by injection e424)
                    replace p424 := eq_true p424
                    replace q424 := eq_true q424
                    go_wp2
                    repeat (go_quiet (fail); try go_wp2)
                    go_meet
                    case rel => exact ⟨_, (true), (by first | rfl | (simp; done) | (simp [*]; done)), H', ⟨by have := HK1.out; first | omega | exact Nat.le_refl _⟩, ⟨by (with_reducible repeat (first | apply Kd.R_alloc | apply Kd.R_drewN | apply Kd.R_drew)); exact HO_6.out⟩, ⟨by repeat (first | (with_reducible first | exact HB.out | apply below_alloc | apply pw_below_drewN | apply below_drew1) | exact HB.out)⟩⟩
                  · rw [if_neg c17] at H
                    have c17b0 : decide (((rdOf ByteArray.empty t417 x9_1).size : Int) < 1) = false := decide_eq_false c17
                    have c17b1 : decide ((rdOf ByteArray.empty t417 x9_1).size < 1) = false := decide_eq_false (by omega)
                    clear c17
                    by_cases c18 : 0 < ((rdOf ByteArray.empty t417 x9_1).size : Int)
                    · rw [if_pos c18] at H
                      have c18b0 : decide (0 < ((rdOf ByteArray.empty t417 x9_1).size : Int)) = true := decide_eq_true c18
                      have c18b1 : decide (0 < (rdOf ByteArray.empty t417 x9_1).size) = true := decide_eq_true (by omega)
                      clear c18
                      replace H := Option.bind_eq_some_iff.mp H
                      obtain ⟨t427, A200, H⟩ := H
                      replace H : (laws_FnTrees.j1 k1 l1 t416 t417 t418 x8_1 x9_1 ((((rdOf ByteArray.empty t417 x9_1).size : Int) == 1) == t427)) = some r := H
                      have A20 := Aside0.mk A200
                      clear A200
                      have H' := Aside0.mk H
                      clear H
                      have p424 : 0 ≤ (x9_1 : Int) := of_decide_eq_true (by first | (with_reducible assumption) | assumption)
                      have q424 : x9_1 < (t417.length : Int) := of_decide_eq_true (by first | (with_reducible assumption) | assumption)
                      obtain ⟨ad424, e424, hx424_0⟩ := Kd.at_string (Kd.R_reads' HO_6.out).2.2 x9_1 p424 q424
                      obtain rfl : ad421 = ad424 := (by injection e424)
                      replace p424 := eq_true p424
                      replace q424 := eq_true q424
                      have p425 : 0 ≤ (x9_1 : Int) := of_decide_eq_true (by first | (with_reducible assumption) | assumption)
                      have q425 : x9_1 < (t417.length : Int) := of_decide_eq_true (by first | (with_reducible assumption) | assumption)
                      obtain ⟨ad425, e425, hx425_0⟩ := Kd.at_string (Kd.R_reads' HO_6.out).2.2 x9_1 p425 q425
                      obtain rfl : ad421 = ad425 := (by injection e425)
                      replace p425 := eq_true p425
                      replace q425 := eq_true q425
                      have p426 : 0 ≤ (x9_1 : Int) := of_decide_eq_true (by first | (with_reducible assumption) | assumption)
                      have q426 : x9_1 < (t417.length : Int) := of_decide_eq_true (by first | (with_reducible assumption) | assumption)
                      obtain ⟨ad426, e426, hx426_0⟩ := Kd.at_string (Kd.R_reads' HO_6.out).2.2 x9_1 p426 q426
                      obtain rfl : ad421 = ad426 := (by injection e426)
                      replace p426 := eq_true p426
                      replace q426 := eq_true q426
                      have p19 : 0 ≤ (0 : Int) := (by omega)
                      have q19 : 0 < (rdOf ByteArray.empty t417 x9_1).size := (by have : (0 : Int) < ((rdOf ByteArray.empty t417 x9_1).size : Int) := of_decide_eq_true (by first | (with_reducible assumption) | assumption); omega)
                      have hx19 : ∀ h : 0 < (rdOf ByteArray.empty t417 x9_1).size, (((rdOf ByteArray.empty t417 x9_1)[0]'h).toNat : Int) = bt (rdOf ByteArray.empty t417 x9_1) 0 := bt_at (rdOf ByteArray.empty t417 x9_1) 0
                      clear p19
                      have qi19 : (0 < ((rdOf ByteArray.empty t417 x9_1).size : Int)) = True := eq_true (of_decide_eq_true (by first | (with_reducible assumption) | assumption))
                      replace q19 := eq_true q19
                      go_wp2_with (first | (go_at_call 23; (with_reducible refine (laws_a2Call.calls (bt (rdOf ByteArray.empty t417 x9_1) 0) t427 _ A20.out).mono ?_); rintro e w' ⟨rfl, ⟨nd, rfl⟩⟩; (try first | exact ⟨rfl, _, World.drewN_drewN _ _ _⟩ | exact ⟨rfl, _, Eq.trans (World.drewN_drewN _ _ _) (congrArg (World.drewN _) (Nat.add_assoc _ _ _))⟩)))
                      repeat (go_quiet (first | (go_at_call 23; (with_reducible refine (laws_a2Call.calls (bt (rdOf ByteArray.empty t417 x9_1) 0) t427 _ A20.out).mono ?_); rintro e w' ⟨rfl, ⟨nd, rfl⟩⟩; (try first | exact ⟨rfl, _, World.drewN_drewN _ _ _⟩ | exact ⟨rfl, _, Eq.trans (World.drewN_drewN _ _ _) (congrArg (World.drewN _) (Nat.add_assoc _ _ _))⟩))); try go_wp2_with (first | (go_at_call 23; (with_reducible refine (laws_a2Call.calls (bt (rdOf ByteArray.empty t417 x9_1) 0) t427 _ A20.out).mono ?_); rintro e w' ⟨rfl, ⟨nd, rfl⟩⟩; (try first | exact ⟨rfl, _, World.drewN_drewN _ _ _⟩ | exact ⟨rfl, _, Eq.trans (World.drewN_drewN _ _ _) (congrArg (World.drewN _) (Nat.add_assoc _ _ _))⟩))))
                      go_meet
                      case rel => exact ⟨_, (((((rdOf ByteArray.empty t417 x9_1).size : Int) == 1) == t427)), (by first | rfl | (simp; done) | (simp [*]; done)), H', ⟨by have := HK1.out; first | omega | exact Nat.le_refl _⟩, ⟨by (with_reducible repeat (first | apply Kd.R_alloc | apply Kd.R_drewN | apply Kd.R_drew)); exact HO_6.out⟩, ⟨by repeat (first | (with_reducible first | exact HB.out | apply below_alloc | apply pw_below_drewN | apply below_drew1) | exact HB.out)⟩⟩
                    · rw [if_neg c18] at H
                      exact absurd H (by simp)
                · replace c16 := Bool.eq_false_iff.mpr c16
                  subst c16
                  have H1 : (laws_FnTrees.j1 k1 l1 t416 t417 t418 x8_1 x9_1 true) = some r := by rw [if_neg (show ¬ (false = true) by decide)] at H; exact H
                  clear H
                  have H := H1
                  clear H1
                  have H' := Aside0.mk H
                  clear H
                  go_wp2
                  repeat (go_quiet (fail); try go_wp2)
                  go_meet
                  case rel => exact ⟨_, (true), (by first | rfl | (simp; done) | (simp [*]; done)), H', ⟨by have := HK1.out; first | omega | exact Nat.le_refl _⟩, ⟨by (with_reducible repeat (first | apply Kd.R_alloc | apply Kd.R_drewN | apply Kd.R_drew)); exact HO_6.out⟩, ⟨by repeat (first | (with_reducible first | exact HB.out | apply below_alloc | apply pw_below_drewN | apply below_drew1) | exact HB.out)⟩⟩
              · rw [if_neg c15] at H
                have c15b0 : (t423 == 0) = false := beq_eq_false_iff_ne.mpr c15
                have c15b1 : (t423 != 0) = true := bne_iff_ne.mpr c15
                (first | rw [c15b0] | rw [c15b1] | (simp only [i64_w, i32_w]; rw [c15b0]) | skip)
                have H' := Aside0.mk H
                clear H
                go_wp2
                repeat (go_quiet (fail); try go_wp2)
                go_meet
                case rel => exact ⟨_, (true), (by first | rfl | (simp; done) | (simp [*]; done)), H', ⟨by have := HK1.out; first | omega | exact Nat.le_refl _⟩, ⟨by (with_reducible repeat (first | apply Kd.R_alloc | apply Kd.R_drewN | apply Kd.R_drew)); exact HO_6.out⟩, ⟨by repeat (first | (with_reducible first | exact HB.out | apply below_alloc | apply pw_below_drewN | apply below_drew1) | exact HB.out)⟩⟩
            case rest =>
              clear HC12
              try clear c1
              try clear p1
              try clear q1
              try clear hx1
              try clear qi1
              try clear p2
              try clear c4
              try clear p4
              try clear q4
              try clear hx4
              try clear c5
              try clear c9
              try clear c9b0
              try clear c10
              try clear c10b0
              try clear c15
              try clear c15b0
              try clear c15b1
              try clear c16
              try clear c17
              try clear c17b0
              try clear c17b1
              try clear c18
              try clear c18b0
              try clear c18b1
              try clear p19
              try clear q19
              try clear hx19
              try clear qi19
              try clear hx421_0
              try clear hx424_0
              try clear hx425_0
              try clear hx426_0
              try clear p19
              try clear p2
              try clear p421
              try clear p424
              try clear p425
              try clear p426
              try clear q19
              try clear q421
              try clear q424
              try clear q425
              try clear q426
              obtain ⟨kq, x77_11, rfl, HA, HJ11, HO_6, HB⟩ := hcut
              cases kq with
              | zero => exact absurd HA.out (by simp [laws_FnTrees.j1])
              | succ kj11 =>
                have H := HA.out
                clear HA
                simp only [laws_FnTrees.j1] at H
                by_cases c21 : x77_11 = true
                · subst c21
                  have H1 : (some false) = some r := by rw [if_pos rfl] at H; exact H
                  clear H
                  have H := H1
                  clear H1
                  obtain rfl := Option.some.inj H
                  go_wp2
                  repeat (go_quiet (fail); try go_wp2)
                  go_ret
                  exact ⟨by first | rfl | (simp [errW_none, errW_some] <;> rfl) | (simp [*, errW_none, errW_some] <;> rfl), by repeat (first | (with_reducible first | exact HB.out | apply below_alloc | apply pw_below_drewN | apply below_drew1) | exact HB.out)⟩
                · replace c21 := Bool.eq_false_iff.mpr c21
                  subst c21
                  have H1 : (if 0 ≤ x9_1 then (if x9_1 < (t417.length : Int) then ((impl_PartnersOf.f kj11 (rdOf ByteArray.empty t417 x9_1)).bind fun bt429 => (if bt429.2 = 0 then (if ((rdOf ByteArray.empty t417 x9_1).size : Int) > 1 then (if (bt429.1.length : Int) = ((rdOf ByteArray.empty t417 x9_1).size : Int) then (if 0 < (bt429.1.length : Int) then (if (rd bt429.1 0) = (wrap64 (((rdOf ByteArray.empty t417 x9_1).size : Int) - 1)) then (if x8_1.size + (rdOf ByteArray.empty t417 x9_1).size ≤ 9223372036854775807 then (laws_FnTrees.l0 kj11 l1 t416 t417 t418 (x8_1 ++ (rdOf ByteArray.empty t417 x9_1)) (wrap64 (x9_1 + 1))) else (none)) else (some false)) else (none)) else (some false)) else (if x8_1.size + (rdOf ByteArray.empty t417 x9_1).size ≤ 9223372036854775807 then (laws_FnTrees.l0 kj11 l1 t416 t417 t418 (x8_1 ++ (rdOf ByteArray.empty t417 x9_1)) (wrap64 (x9_1 + 1))) else (none))) else (some false))) else (none)) else (none)) = some r := by rw [if_neg (show ¬ (false = true) by decide)] at H; exact H
                  clear H
                  have H := H1
                  clear H1
                  by_cases c22 : 0 ≤ x9_1
                  · rw [if_pos c22] at H
                    have c22b0 : decide (0 ≤ x9_1) = true := decide_eq_true c22
                    clear c22
                    by_cases c23 : x9_1 < (t417.length : Int)
                    · rw [if_pos c23] at H
                      have c23b0 : decide (x9_1 < (t417.length : Int)) = true := decide_eq_true c23
                      clear c23
                      replace H := Option.bind_eq_some_iff.mp H
                      obtain ⟨⟨t429, t430⟩, A240, H⟩ := H
                      replace H : (if t430 = 0 then (if ((rdOf ByteArray.empty t417 x9_1).size : Int) > 1 then (if (t429.length : Int) = ((rdOf ByteArray.empty t417 x9_1).size : Int) then (if 0 < (t429.length : Int) then (if (rd t429 0) = (wrap64 (((rdOf ByteArray.empty t417 x9_1).size : Int) - 1)) then (if x8_1.size + (rdOf ByteArray.empty t417 x9_1).size ≤ 9223372036854775807 then (laws_FnTrees.l0 kj11 l1 t416 t417 t418 (x8_1 ++ (rdOf ByteArray.empty t417 x9_1)) (wrap64 (x9_1 + 1))) else (none)) else (some false)) else (none)) else (some false)) else (if x8_1.size + (rdOf ByteArray.empty t417 x9_1).size ≤ 9223372036854775807 then (laws_FnTrees.l0 kj11 l1 t416 t417 t418 (x8_1 ++ (rdOf ByteArray.empty t417 x9_1)) (wrap64 (x9_1 + 1))) else (none))) else (some false)) = some r := H
                      have A24 := Aside0.mk A240
                      clear A240
                      by_cases c25 : t430 = 0
                      · rw [if_pos c25] at H
                        have c25b0 : (t430 == 0) = true := beq_iff_eq.mpr c25
                        have c25b1 : (t430 != 0) = false := bne_eq_false_iff_eq.mpr c25
                        clear c25
                        by_cases c26 : ((rdOf ByteArray.empty t417 x9_1).size : Int) > 1
                        · rw [if_pos c26] at H
                          have c26b0 : decide (1 < ((rdOf ByteArray.empty t417 x9_1).size : Int)) = true := decide_eq_true c26
                          have c26b1 : decide (1 < (rdOf ByteArray.empty t417 x9_1).size) = true := decide_eq_true (by omega)
                          clear c26
                          by_cases c27 : (t429.length : Int) = ((rdOf ByteArray.empty t417 x9_1).size : Int)
                          · rw [if_pos c27] at H
                            have c27b0 : ((t429.length : Int) == ((rdOf ByteArray.empty t417 x9_1).size : Int)) = true := beq_iff_eq.mpr c27
                            have c27b1 : ((t429.length : Int) != ((rdOf ByteArray.empty t417 x9_1).size : Int)) = false := bne_eq_false_iff_eq.mpr c27
                            have c27b2 : (t429.length == (rdOf ByteArray.empty t417 x9_1).size) = true := by first | simpa using c27 | (simp at c27 ⊢; omega)
                            clear c27
                            by_cases c28 : 0 < (t429.length : Int)
                            · rw [if_pos c28] at H
                              have c28b0 : decide (0 < (t429.length : Int)) = true := decide_eq_true c28
                              have c28b1 : decide (0 < t429.length) = true := decide_eq_true (by omega)
                              clear c28
                              by_cases c29 : (rd t429 0) = (wrap64 (((rdOf ByteArray.empty t417 x9_1).size : Int) - 1))
                              · rw [if_pos c29] at H
                                have c29b0 : ((rd t429 0) == (wrap64 (((rdOf ByteArray.empty t417 x9_1).size : Int) - 1))) = true := beq_iff_eq.mpr c29
                                have c29b1 : ((rd t429 0) != (wrap64 (((rdOf ByteArray.empty t417 x9_1).size : Int) - 1))) = false := bne_eq_false_iff_eq.mpr c29
                                clear c29
                                by_cases c30 : x8_1.size + (rdOf ByteArray.empty t417 x9_1).size ≤ 9223372036854775807
                                · rw [if_pos c30] at H
                                  have c30b0 := eq_true c30
                                  have c30b1 : decide (x8_1.size + (rdOf ByteArray.empty t417 x9_1).size ≤ 9223372036854775807) = true := decide_eq_true c30
                                  try have c30b2 : (9223372036854775807 < x8_1.size + (rdOf ByteArray.empty t417 x9_1).size) = False := eq_false (Nat.not_lt.2 c30)
                                  have c29b9 : ((rd t429 0) != (((rdOf ByteArray.empty t417 x9_1).size : Int) - 1)) = false := by have e_ : ∀ a b : Nat, a + b ≤ 9223372036854775807 → wrap64 ((b : Int) - 1) = (b : Int) - 1 := (fun a b h => by unfold wrap64; omega); rw [← e_ _ _ (of_eq_true c30b0)]; exact c29b1
                                  have H' := Aside0.mk H
                                  clear H
                                  have p428 : 0 ≤ (x9_1 : Int) := of_decide_eq_true (by first | (with_reducible assumption) | assumption)
                                  have q428 : x9_1 < (t417.length : Int) := of_decide_eq_true (by first | (with_reducible assumption) | assumption)
                                  obtain ⟨ad428, e428, hx428_0⟩ := Kd.at_string (Kd.R_reads' HO_6.out).2.2 x9_1 p428 q428
                                  obtain rfl : ad421 = ad428 := (by injection e428)
                                  replace p428 := eq_true p428
                                  replace q428 := eq_true q428
                                  go_wp2_with (first | (go_at_call 24; (with_reducible refine (impl_PartnersOf.calls kj11 (rdOf ByteArray.empty t417 x9_1) t429 t430 _ A24.out).mono ?_); rintro e w31 ⟨v431, rfl, ho0, hb⟩; have n0_ := Aside0.mk (Kd.R_below (by (with_reducible repeat (first | apply Kd.R_alloc | apply Kd.R_drewN | apply Kd.R_drew)); exact HO_6.out) hb); have n1_ := Aside0.mk (Kd.R_lower ho0 (below_size (by repeat (first | (with_reducible first | exact HB.out | apply below_alloc | apply pw_below_drewN | apply below_drew1) | exact HB.out)))); have n2_ := Aside0.mk (below_step (by repeat (first | (with_reducible first | exact HB.out | apply below_alloc | apply pw_below_drewN | apply below_drew1) | exact HB.out)) hb); clear HO_6; clear HB; have HO_6 := n0_; have HO432 := n1_; have HB := n2_; clear n0_ n1_ n2_; (try clear hb); (try clear hb2); (try clear hk); (try clear hi); (try clear ho0); have p433 : 0 ≤ (x9_1 : Int) := of_decide_eq_true (by first | (with_reducible assumption) | assumption); have q433 : x9_1 < (t417.length : Int) := of_decide_eq_true (by first | (with_reducible assumption) | assumption); obtain ⟨ad433, e433, hx433_0⟩ := Kd.at_string (Kd.R_reads' HO_6.out).2.2 x9_1 p433 q433; obtain rfl : ad421 = ad433 := (by injection e433); replace p433 := eq_true p433; replace q433 := eq_true q433; obtain ⟨Ao32, co32, eo32⟩ := Kd.R_slice HO432.out; subst eo32; have p434 : 0 ≤ (x9_1 : Int) := of_decide_eq_true (by first | (with_reducible assumption) | assumption); have q434 : x9_1 < (t417.length : Int) := of_decide_eq_true (by first | (with_reducible assumption) | assumption); obtain ⟨ad434, e434, hx434_0⟩ := Kd.at_string (Kd.R_reads' HO_6.out).2.2 x9_1 p434 q434; obtain rfl : ad421 = ad434 := (by injection e434); replace p434 := eq_true p434; replace q434 := eq_true q434; have p435 : 0 ≤ (0 : Int) := (by omega); have q435 : 0 < (t429.length : Int) := of_decide_eq_true (by first | (with_reducible assumption) | assumption); obtain ⟨ad435, e435, hx435_0⟩ := Kd.at_int (Kd.R_reads' HO432.out).2.2 0 p435 q435; cases e435; have qi435 : (0 < t429.length) = True := eq_true (by omega); (try rw [show ((0 : Int)).toNat = 0 from rfl] at hx435_0); (try rw [Addr.add_zero'] at hx435_0); replace p435 := eq_true p435; replace q435 := eq_true q435; have p436 : 0 ≤ (x9_1 : Int) := of_decide_eq_true (by first | (with_reducible assumption) | assumption); have q436 : x9_1 < (t417.length : Int) := of_decide_eq_true (by first | (with_reducible assumption) | assumption); obtain ⟨ad436, e436, hx436_0⟩ := Kd.at_string (Kd.R_reads' HO_6.out).2.2 x9_1 p436 q436; obtain rfl : ad421 = ad436 := (by injection e436); replace p436 := eq_true p436; replace q436 := eq_true q436; have p437 : 0 ≤ (x9_1 : Int) := of_decide_eq_true (by first | (with_reducible assumption) | assumption); have q437 : x9_1 < (t417.length : Int) := of_decide_eq_true (by first | (with_reducible assumption) | assumption); obtain ⟨ad437, e437, hx437_0⟩ := Kd.at_string (Kd.R_reads' HO_6.out).2.2 x9_1 p437 q437; obtain rfl : ad421 = ad437 := (by injection e437); replace p437 := eq_true p437; replace q437 := eq_true q437))
                                  repeat (go_quiet (first | (go_at_call 24; (with_reducible refine (impl_PartnersOf.calls kj11 (rdOf ByteArray.empty t417 x9_1) t429 t430 _ A24.out).mono ?_); rintro e w31 ⟨v431, rfl, ho0, hb⟩; have n0_ := Aside0.mk (Kd.R_below (by (with_reducible repeat (first | apply Kd.R_alloc | apply Kd.R_drewN | apply Kd.R_drew)); exact HO_6.out) hb); have n1_ := Aside0.mk (Kd.R_lower ho0 (below_size (by repeat (first | (with_reducible first | exact HB.out | apply below_alloc | apply pw_below_drewN | apply below_drew1) | exact HB.out)))); have n2_ := Aside0.mk (below_step (by repeat (first | (with_reducible first | exact HB.out | apply below_alloc | apply pw_below_drewN | apply below_drew1) | exact HB.out)) hb); clear HO_6; clear HB; have HO_6 := n0_; have HO432 := n1_; have HB := n2_; clear n0_ n1_ n2_; (try clear hb); (try clear hb2); (try clear hk); (try clear hi); (try clear ho0); have p433 : 0 ≤ (x9_1 : Int) := of_decide_eq_true (by first | (with_reducible assumption) | assumption); have q433 : x9_1 < (t417.length : Int) := of_decide_eq_true (by first | (with_reducible assumption) | assumption); obtain ⟨ad433, e433, hx433_0⟩ := Kd.at_string (Kd.R_reads' HO_6.out).2.2 x9_1 p433 q433; obtain rfl : ad421 = ad433 := (by injection e433); replace p433 := eq_true p433; replace q433 := eq_true q433; obtain ⟨Ao32, co32, eo32⟩ := Kd.R_slice HO432.out; subst eo32; have p434 : 0 ≤ (x9_1 : Int) := of_decide_eq_true (by first | (with_reducible assumption) | assumption); have q434 : x9_1 < (t417.length : Int) := of_decide_eq_true (by first | (with_reducible assumption) | assumption); obtain ⟨ad434, e434, hx434_0⟩ := Kd.at_string (Kd.R_reads' HO_6.out).2.2 x9_1 p434 q434; obtain rfl : ad421 = ad434 := (by injection e434); replace p434 := eq_true p434; replace q434 := eq_true q434; have p435 : 0 ≤ (0 : Int) := (by omega); have q435 : 0 < (t429.length : Int) := of_decide_eq_true (by first | (with_reducible assumption) | assumption); obtain ⟨ad435, e435, hx435_0⟩ := Kd.at_int (Kd.R_reads' HO432.out).2.2 0 p435 q435; cases e435; have qi435 : (0 < t429.length) = True := eq_true (by omega); (try rw [show ((0 : Int)).toNat = 0 from rfl] at hx435_0); (try rw [Addr.add_zero'] at hx435_0); replace p435 := eq_true p435; replace q435 := eq_true q435; have p436 : 0 ≤ (x9_1 : Int) := of_decide_eq_true (by first | (with_reducible assumption) | assumption); have q436 : x9_1 < (t417.length : Int) := of_decide_eq_true (by first | (with_reducible assumption) | assumption); obtain ⟨ad436, e436, hx436_0⟩ := Kd.at_string (Kd.R_reads' HO_6.out).2.2 x9_1 p436 q436; obtain rfl : ad421 = ad436 := (by injection e436); replace p436 := eq_true p436; replace q436 := eq_true q436; have p437 : 0 ≤ (x9_1 : Int) := of_decide_eq_true (by first | (with_reducible assumption) | assumption); have q437 : x9_1 < (t417.length : Int) := of_decide_eq_true (by first | (with_reducible assumption) | assumption); obtain ⟨ad437, e437, hx437_0⟩ := Kd.at_string (Kd.R_reads' HO_6.out).2.2 x9_1 p437 q437; obtain rfl : ad421 = ad437 := (by injection e437); replace p437 := eq_true p437; replace q437 := eq_true q437)); try go_wp2_with (first | (go_at_call 24; (with_reducible refine (impl_PartnersOf.calls kj11 (rdOf ByteArray.empty t417 x9_1) t429 t430 _ A24.out).mono ?_); rintro e w31 ⟨v431, rfl, ho0, hb⟩; have n0_ := Aside0.mk (Kd.R_below (by (with_reducible repeat (first | apply Kd.R_alloc | apply Kd.R_drewN | apply Kd.R_drew)); exact HO_6.out) hb); have n1_ := Aside0.mk (Kd.R_lower ho0 (below_size (by repeat (first | (with_reducible first | exact HB.out | apply below_alloc | apply pw_below_drewN | apply below_drew1) | exact HB.out)))); have n2_ := Aside0.mk (below_step (by repeat (first | (with_reducible first | exact HB.out | apply below_alloc | apply pw_below_drewN | apply below_drew1) | exact HB.out)) hb); clear HO_6; clear HB; have HO_6 := n0_; have HO432 := n1_; have HB := n2_; clear n0_ n1_ n2_; (try clear hb); (try clear hb2); (try clear hk); (try clear hi); (try clear ho0); have p433 : 0 ≤ (x9_1 : Int) := of_decide_eq_true (by first | (with_reducible assumption) | assumption); have q433 : x9_1 < (t417.length : Int) := of_decide_eq_true (by first | (with_reducible assumption) | assumption); obtain ⟨ad433, e433, hx433_0⟩ := Kd.at_string (Kd.R_reads' HO_6.out).2.2 x9_1 p433 q433; obtain rfl : ad421 = ad433 := (by injection e433); replace p433 := eq_true p433; replace q433 := eq_true q433; obtain ⟨Ao32, co32, eo32⟩ := Kd.R_slice HO432.out; subst eo32; have p434 : 0 ≤ (x9_1 : Int) := of_decide_eq_true (by first | (with_reducible assumption) | assumption); have q434 : x9_1 < (t417.length : Int) := of_decide_eq_true (by first | (with_reducible assumption) | assumption); obtain ⟨ad434, e434, hx434_0⟩ := Kd.at_string (Kd.R_reads' HO_6.out).2.2 x9_1 p434 q434; obtain rfl : ad421 = ad434 := (by injection e434); replace p434 := eq_true p434; replace q434 := eq_true q434; have p435 : 0 ≤ (0 : Int) := (by omega); have q435 : 0 < (t429.length : Int) := of_decide_eq_true (by first | (with_reducible assumption) | assumption); obtain ⟨ad435, e435, hx435_0⟩ := Kd.at_int (Kd.R_reads' HO432.out).2.2 0 p435 q435; cases e435; have qi435 : (0 < t429.length) = True := eq_true (by omega); (try rw [show ((0 : Int)).toNat = 0 from rfl] at hx435_0); (try rw [Addr.add_zero'] at hx435_0); replace p435 := eq_true p435; replace q435 := eq_true q435; have p436 : 0 ≤ (x9_1 : Int) := of_decide_eq_true (by first | (with_reducible assumption) | assumption); have q436 : x9_1 < (t417.length : Int) := of_decide_eq_true (by first | (with_reducible assumption) | assumption); obtain ⟨ad436, e436, hx436_0⟩ := Kd.at_string (Kd.R_reads' HO_6.out).2.2 x9_1 p436 q436; obtain rfl : ad421 = ad436 := (by injection e436); replace p436 := eq_true p436; replace q436 := eq_true q436; have p437 : 0 ≤ (x9_1 : Int) := of_decide_eq_true (by first | (with_reducible assumption) | assumption); have q437 : x9_1 < (t417.length : Int) := of_decide_eq_true (by first | (with_reducible assumption) | assumption); obtain ⟨ad437, e437, hx437_0⟩ := Kd.at_string (Kd.R_reads' HO_6.out).2.2 x9_1 p437 q437; obtain rfl : ad421 = ad437 := (by injection e437); replace p437 := eq_true p437; replace q437 := eq_true q437)))
                                  go_roundg kj11
                                  case measure => have := HK1.out; have := HJ11.out; omega
                                  case rel => exact ⟨(x8_1 ++ (rdOf ByteArray.empty t417 x9_1)), (wrap64 (x9_1 + 1)), (by first | rfl | (simp; done) | (simp [*]; done)), (by first | rfl | (simp; done) | (simp [*]; done)), H', ⟨by have := HK1.out; have := HJ11.out; omega⟩, ⟨by (with_reducible repeat (first | apply Kd.R_alloc | apply Kd.R_drewN | apply Kd.R_drew)); exact HO_6.out⟩, ⟨by repeat (first | (with_reducible first | exact HB.out | apply below_alloc | apply pw_below_drewN | apply below_drew1) | exact HB.out)⟩⟩
                                · rw [if_neg c30] at H
                                  exact absurd H (by simp)
                              · rw [if_neg c29] at H
                                have c29b0 : ((rd t429 0) == (wrap64 (((rdOf ByteArray.empty t417 x9_1).size : Int) - 1))) = false := beq_eq_false_iff_ne.mpr c29
                                have c29b1 : ((rd t429 0) != (wrap64 (((rdOf ByteArray.empty t417 x9_1).size : Int) - 1))) = true := bne_iff_ne.mpr c29
                                obtain rfl := Option.some.inj H
                                have p428 : 0 ≤ (x9_1 : Int) := of_decide_eq_true (by first | (with_reducible assumption) | assumption)
                                have q428 : x9_1 < (t417.length : Int) := of_decide_eq_true (by first | (with_reducible assumption) | assumption)
                                obtain ⟨ad428, e428, hx428_0⟩ := Kd.at_string (Kd.R_reads' HO_6.out).2.2 x9_1 p428 q428
                                obtain rfl : ad421 = ad428 := (by injection e428)
                                replace p428 := eq_true p428
                                replace q428 := eq_true q428
                                go_wp2_with (first | (go_at_call 24; (with_reducible refine (impl_PartnersOf.calls kj11 (rdOf ByteArray.empty t417 x9_1) t429 t430 _ A24.out).mono ?_); rintro e w33 ⟨v431, rfl, ho0, hb⟩; have n0_ := Aside0.mk (Kd.R_below (by (with_reducible repeat (first | apply Kd.R_alloc | apply Kd.R_drewN | apply Kd.R_drew)); exact HO_6.out) hb); have n1_ := Aside0.mk (Kd.R_lower ho0 (below_size (by repeat (first | (with_reducible first | exact HB.out | apply below_alloc | apply pw_below_drewN | apply below_drew1) | exact HB.out)))); have n2_ := Aside0.mk (below_step (by repeat (first | (with_reducible first | exact HB.out | apply below_alloc | apply pw_below_drewN | apply below_drew1) | exact HB.out)) hb); clear HO_6; clear HB; have HO_6 := n0_; have HO432 := n1_; have HB := n2_; clear n0_ n1_ n2_; (try clear hb); (try clear hb2); (try clear hk); (try clear hi); (try clear ho0); have p433 : 0 ≤ (x9_1 : Int) := of_decide_eq_true (by first | (with_reducible assumption) | assumption); have q433 : x9_1 < (t417.length : Int) := of_decide_eq_true (by first | (with_reducible assumption) | assumption); obtain ⟨ad433, e433, hx433_0⟩ := Kd.at_string (Kd.R_reads' HO_6.out).2.2 x9_1 p433 q433; obtain rfl : ad421 = ad433 := (by injection e433); replace p433 := eq_true p433; replace q433 := eq_true q433; obtain ⟨Ao34, co34, eo34⟩ := Kd.R_slice HO432.out; subst eo34; have p434 : 0 ≤ (x9_1 : Int) := of_decide_eq_true (by first | (with_reducible assumption) | assumption); have q434 : x9_1 < (t417.length : Int) := of_decide_eq_true (by first | (with_reducible assumption) | assumption); obtain ⟨ad434, e434, hx434_0⟩ := Kd.at_string (Kd.R_reads' HO_6.out).2.2 x9_1 p434 q434; obtain rfl : ad421 = ad434 := (by injection e434); replace p434 := eq_true p434; replace q434 := eq_true q434; have p435 : 0 ≤ (0 : Int) := (by omega); have q435 : 0 < (t429.length : Int) := of_decide_eq_true (by first | (with_reducible assumption) | assumption); obtain ⟨ad435, e435, hx435_0⟩ := Kd.at_int (Kd.R_reads' HO432.out).2.2 0 p435 q435; cases e435; have qi435 : (0 < t429.length) = True := eq_true (by omega); (try rw [show ((0 : Int)).toNat = 0 from rfl] at hx435_0); (try rw [Addr.add_zero'] at hx435_0); replace p435 := eq_true p435; replace q435 := eq_true q435; have p436 : 0 ≤ (x9_1 : Int) := of_decide_eq_true (by first | (with_reducible assumption) | assumption); have q436 : x9_1 < (t417.length : Int) := of_decide_eq_true (by first | (with_reducible assumption) | assumption); obtain ⟨ad436, e436, hx436_0⟩ := Kd.at_string (Kd.R_reads' HO_6.out).2.2 x9_1 p436 q436; obtain rfl : ad421 = ad436 := (by injection e436); replace p436 := eq_true p436; replace q436 := eq_true q436))
                                repeat (go_quiet (first | (go_at_call 24; (with_reducible refine (impl_PartnersOf.calls kj11 (rdOf ByteArray.empty t417 x9_1) t429 t430 _ A24.out).mono ?_); rintro e w33 ⟨v431, rfl, ho0, hb⟩; have n0_ := Aside0.mk (Kd.R_below (by (with_reducible repeat (first | apply Kd.R_alloc | apply Kd.R_drewN | apply Kd.R_drew)); exact HO_6.out) hb); have n1_ := Aside0.mk (Kd.R_lower ho0 (below_size (by repeat (first | (with_reducible first | exact HB.out | apply below_alloc | apply pw_below_drewN | apply below_drew1) | exact HB.out)))); have n2_ := Aside0.mk (below_step (by repeat (first | (with_reducible first | exact HB.out | apply below_alloc | apply pw_below_drewN | apply below_drew1) | exact HB.out)) hb); clear HO_6; clear HB; have HO_6 := n0_; have HO432 := n1_; have HB := n2_; clear n0_ n1_ n2_; (try clear hb); (try clear hb2); (try clear hk); (try clear hi); (try clear ho0); have p433 : 0 ≤ (x9_1 : Int) := of_decide_eq_true (by first | (with_reducible assumption) | assumption); have q433 : x9_1 < (t417.length : Int) := of_decide_eq_true (by first | (with_reducible assumption) | assumption); obtain ⟨ad433, e433, hx433_0⟩ := Kd.at_string (Kd.R_reads' HO_6.out).2.2 x9_1 p433 q433; obtain rfl : ad421 = ad433 := (by injection e433); replace p433 := eq_true p433; replace q433 := eq_true q433; obtain ⟨Ao34, co34, eo34⟩ := Kd.R_slice HO432.out; subst eo34; have p434 : 0 ≤ (x9_1 : Int) := of_decide_eq_true (by first | (with_reducible assumption) | assumption); have q434 : x9_1 < (t417.length : Int) := of_decide_eq_true (by first | (with_reducible assumption) | assumption); obtain ⟨ad434, e434, hx434_0⟩ := Kd.at_string (Kd.R_reads' HO_6.out).2.2 x9_1 p434 q434; obtain rfl : ad421 = ad434 := (by injection e434); replace p434 := eq_true p434; replace q434 := eq_true q434; have p435 : 0 ≤ (0 : Int) := (by omega); have q435 : 0 < (t429.length : Int) := of_decide_eq_true (by first | (with_reducible assumption) | assumption); obtain ⟨ad435, e435, hx435_0⟩ := Kd.at_int (Kd.R_reads' HO432.out).2.2 0 p435 q435; cases e435; have qi435 : (0 < t429.length) = True := eq_true (by omega); (try rw [show ((0 : Int)).toNat = 0 from rfl] at hx435_0); (try rw [Addr.add_zero'] at hx435_0); replace p435 := eq_true p435; replace q435 := eq_true q435; have p436 : 0 ≤ (x9_1 : Int) := of_decide_eq_true (by first | (with_reducible assumption) | assumption); have q436 : x9_1 < (t417.length : Int) := of_decide_eq_true (by first | (with_reducible assumption) | assumption); obtain ⟨ad436, e436, hx436_0⟩ := Kd.at_string (Kd.R_reads' HO_6.out).2.2 x9_1 p436 q436; obtain rfl : ad421 = ad436 := (by injection e436); replace p436 := eq_true p436; replace q436 := eq_true q436)); try go_wp2_with (first | (go_at_call 24; (with_reducible refine (impl_PartnersOf.calls kj11 (rdOf ByteArray.empty t417 x9_1) t429 t430 _ A24.out).mono ?_); rintro e w33 ⟨v431, rfl, ho0, hb⟩; have n0_ := Aside0.mk (Kd.R_below (by (with_reducible repeat (first | apply Kd.R_alloc | apply Kd.R_drewN | apply Kd.R_drew)); exact HO_6.out) hb); have n1_ := Aside0.mk (Kd.R_lower ho0 (below_size (by repeat (first | (with_reducible first | exact HB.out | apply below_alloc | apply pw_below_drewN | apply below_drew1) | exact HB.out)))); have n2_ := Aside0.mk (below_step (by repeat (first | (with_reducible first | exact HB.out | apply below_alloc | apply pw_below_drewN | apply below_drew1) | exact HB.out)) hb); clear HO_6; clear HB; have HO_6 := n0_; have HO432 := n1_; have HB := n2_; clear n0_ n1_ n2_; (try clear hb); (try clear hb2); (try clear hk); (try clear hi); (try clear ho0); have p433 : 0 ≤ (x9_1 : Int) := of_decide_eq_true (by first | (with_reducible assumption) | assumption); have q433 : x9_1 < (t417.length : Int) := of_decide_eq_true (by first | (with_reducible assumption) | assumption); obtain ⟨ad433, e433, hx433_0⟩ := Kd.at_string (Kd.R_reads' HO_6.out).2.2 x9_1 p433 q433; obtain rfl : ad421 = ad433 := (by injection e433); replace p433 := eq_true p433; replace q433 := eq_true q433; obtain ⟨Ao34, co34, eo34⟩ := Kd.R_slice HO432.out; subst eo34; have p434 : 0 ≤ (x9_1 : Int) := of_decide_eq_true (by first | (with_reducible assumption) | assumption); have q434 : x9_1 < (t417.length : Int) := of_decide_eq_true (by first | (with_reducible assumption) | assumption); obtain ⟨ad434, e434, hx434_0⟩ := Kd.at_string (Kd.R_reads' HO_6.out).2.2 x9_1 p434 q434; obtain rfl : ad421 = ad434 := (by injection e434); replace p434 := eq_true p434; replace q434 := eq_true q434; have p435 : 0 ≤ (0 : Int) := (by omega); have q435 : 0 < (t429.length : Int) := of_decide_eq_true (by first | (with_reducible assumption) | assumption); obtain ⟨ad435, e435, hx435_0⟩ := Kd.at_int (Kd.R_reads' HO432.out).2.2 0 p435 q435; cases e435; have qi435 : (0 < t429.length) = True := eq_true (by omega); (try rw [show ((0 : Int)).toNat = 0 from rfl] at hx435_0); (try rw [Addr.add_zero'] at hx435_0); replace p435 := eq_true p435; replace q435 := eq_true q435; have p436 : 0 ≤ (x9_1 : Int) := of_decide_eq_true (by first | (with_reducible assumption) | assumption); have q436 : x9_1 < (t417.length : Int) := of_decide_eq_true (by first | (with_reducible assumption) | assumption); obtain ⟨ad436, e436, hx436_0⟩ := Kd.at_string (Kd.R_reads' HO_6.out).2.2 x9_1 p436 q436; obtain rfl : ad421 = ad436 := (by injection e436); replace p436 := eq_true p436; replace q436 := eq_true q436)))
                                go_ret
                                exact ⟨by first | rfl | (simp [errW_none, errW_some] <;> rfl) | (simp [*, errW_none, errW_some] <;> rfl), by repeat (first | (with_reducible first | exact HB.out | apply below_alloc | apply pw_below_drewN | apply below_drew1) | exact HB.out)⟩
                            · rw [if_neg c28] at H
                              exact absurd H (by simp)
                          · rw [if_neg c27] at H
                            have c27b0 : ((t429.length : Int) == ((rdOf ByteArray.empty t417 x9_1).size : Int)) = false := beq_eq_false_iff_ne.mpr c27
                            have c27b1 : ((t429.length : Int) != ((rdOf ByteArray.empty t417 x9_1).size : Int)) = true := bne_iff_ne.mpr c27
                            have c27b2 : (t429.length == (rdOf ByteArray.empty t417 x9_1).size) = false := by first | simpa using c27 | (simp at c27 ⊢; omega)
                            obtain rfl := Option.some.inj H
                            have p428 : 0 ≤ (x9_1 : Int) := of_decide_eq_true (by first | (with_reducible assumption) | assumption)
                            have q428 : x9_1 < (t417.length : Int) := of_decide_eq_true (by first | (with_reducible assumption) | assumption)
                            obtain ⟨ad428, e428, hx428_0⟩ := Kd.at_string (Kd.R_reads' HO_6.out).2.2 x9_1 p428 q428
                            obtain rfl : ad421 = ad428 := (by injection e428)
                            replace p428 := eq_true p428
                            replace q428 := eq_true q428
                            go_wp2_with (first | (go_at_call 24; (with_reducible refine (impl_PartnersOf.calls kj11 (rdOf ByteArray.empty t417 x9_1) t429 t430 _ A24.out).mono ?_); rintro e w35 ⟨v431, rfl, ho0, hb⟩; have n0_ := Aside0.mk (Kd.R_below (by (with_reducible repeat (first | apply Kd.R_alloc | apply Kd.R_drewN | apply Kd.R_drew)); exact HO_6.out) hb); have n1_ := Aside0.mk (Kd.R_lower ho0 (below_size (by repeat (first | (with_reducible first | exact HB.out | apply below_alloc | apply pw_below_drewN | apply below_drew1) | exact HB.out)))); have n2_ := Aside0.mk (below_step (by repeat (first | (with_reducible first | exact HB.out | apply below_alloc | apply pw_below_drewN | apply below_drew1) | exact HB.out)) hb); clear HO_6; clear HB; have HO_6 := n0_; have HO432 := n1_; have HB := n2_; clear n0_ n1_ n2_; (try clear hb); (try clear hb2); (try clear hk); (try clear hi); (try clear ho0); have p433 : 0 ≤ (x9_1 : Int) := of_decide_eq_true (by first | (with_reducible assumption) | assumption); have q433 : x9_1 < (t417.length : Int) := of_decide_eq_true (by first | (with_reducible assumption) | assumption); obtain ⟨ad433, e433, hx433_0⟩ := Kd.at_string (Kd.R_reads' HO_6.out).2.2 x9_1 p433 q433; obtain rfl : ad421 = ad433 := (by injection e433); replace p433 := eq_true p433; replace q433 := eq_true q433; obtain ⟨Ao36, co36, eo36⟩ := Kd.R_slice HO432.out; subst eo36; have p434 : 0 ≤ (x9_1 : Int) := of_decide_eq_true (by first | (with_reducible assumption) | assumption); have q434 : x9_1 < (t417.length : Int) := of_decide_eq_true (by first | (with_reducible assumption) | assumption); obtain ⟨ad434, e434, hx434_0⟩ := Kd.at_string (Kd.R_reads' HO_6.out).2.2 x9_1 p434 q434; obtain rfl : ad421 = ad434 := (by injection e434); replace p434 := eq_true p434; replace q434 := eq_true q434))
                            repeat (go_quiet (first | (go_at_call 24; (with_reducible refine (impl_PartnersOf.calls kj11 (rdOf ByteArray.empty t417 x9_1) t429 t430 _ A24.out).mono ?_); rintro e w35 ⟨v431, rfl, ho0, hb⟩; have n0_ := Aside0.mk (Kd.R_below (by (with_reducible repeat (first | apply Kd.R_alloc | apply Kd.R_drewN | apply Kd.R_drew)); exact HO_6.out) hb); have n1_ := Aside0.mk (Kd.R_lower ho0 (below_size (by repeat (first | (with_reducible first | exact HB.out | apply below_alloc | apply pw_below_drewN | apply below_drew1) | exact HB.out)))); have n2_ := Aside0.mk (below_step (by repeat (first | (with_reducible first | exact HB.out | apply below_alloc | apply pw_below_drewN | apply below_drew1) | exact HB.out)) hb); clear HO_6; clear HB; have HO_6 := n0_; have HO432 := n1_; have HB := n2_; clear n0_ n1_ n2_; (try clear hb); (try clear hb2); (try clear hk); (try clear hi); (try clear ho0); have p433 : 0 ≤ (x9_1 : Int) := of_decide_eq_true (by first | (with_reducible assumption) | assumption); have q433 : x9_1 < (t417.length : Int) := of_decide_eq_true (by first | (with_reducible assumption) | assumption); obtain ⟨ad433, e433, hx433_0⟩ := Kd.at_string (Kd.R_reads' HO_6.out).2.2 x9_1 p433 q433; obtain rfl : ad421 = ad433 := (by injection e433); replace p433 := eq_true p433; replace q433 := eq_true q433; obtain ⟨Ao36, co36, eo36⟩ := Kd.R_slice HO432.out; subst eo36; have p434 : 0 ≤ (x9_1 : Int) := of_decide_eq_true (by first | (with_reducible assumption) | assumption); have q434 : x9_1 < (t417.length : Int) := of_decide_eq_true (by first | (with_reducible assumption) | assumption); obtain ⟨ad434, e434, hx434_0⟩ := Kd.at_string (Kd.R_reads' HO_6.out).2.2 x9_1 p434 q434; obtain rfl : ad421 = ad434 := (by injection e434); replace p434 := eq_true p434; replace q434 := eq_true q434)); try go_wp2_with (first | (go_at_call 24; (with_reducible refine (impl_PartnersOf.calls kj11 (rdOf ByteArray.empty t417 x9_1) t429 t430 _ A24.out).mono ?_); rintro e w35 ⟨v431, rfl, ho0, hb⟩; have n0_ := Aside0.mk (Kd.R_below (by (with_reducible repeat (first | apply Kd.R_alloc | apply Kd.R_drewN | apply Kd.R_drew)); exact HO_6.out) hb); have n1_ := Aside0.mk (Kd.R_lower ho0 (below_size (by repeat (first | (with_reducible first | exact HB.out | apply below_alloc | apply pw_below_drewN | apply below_drew1) | exact HB.out)))); have n2_ := Aside0.mk (below_step (by repeat (first | (with_reducible first | exact HB.out | apply below_alloc | apply pw_below_drewN | apply below_drew1) | exact HB.out)) hb); clear HO_6; clear HB; have HO_6 := n0_; have HO432 := n1_; have HB := n2_; clear n0_ n1_ n2_; (try clear hb); (try clear hb2); (try clear hk); (try clear hi); (try clear ho0); have p433 : 0 ≤ (x9_1 : Int) := of_decide_eq_true (by first | (with_reducible assumption) | assumption); have q433 : x9_1 < (t417.length : Int) := of_decide_eq_true (by first | (with_reducible assumption) | assumption); obtain ⟨ad433, e433, hx433_0⟩ := Kd.at_string (Kd.R_reads' HO_6.out).2.2 x9_1 p433 q433; obtain rfl : ad421 = ad433 := (by injection e433); replace p433 := eq_true p433; replace q433 := eq_true q433; obtain ⟨Ao36, co36, eo36⟩ := Kd.R_slice HO432.out; subst eo36; have p434 : 0 ≤ (x9_1 : Int) := of_decide_eq_true (by first | (with_reducible assumption) | assumption); have q434 : x9_1 < (t417.length : Int) := of_decide_eq_true (by first | (with_reducible assumption) | assumption); obtain ⟨ad434, e434, hx434_0⟩ := Kd.at_string (Kd.R_reads' HO_6.out).2.2 x9_1 p434 q434; obtain rfl : ad421 = ad434 := (by injection e434); replace p434 := eq_true p434; replace q434 := eq_true q434)))
                            go_ret
                            exact ⟨by first | rfl | (simp [errW_none, errW_some] <;> rfl) | (simp [*, errW_none, errW_some] <;> rfl), by repeat (first | (with_reducible first | exact HB.out | apply below_alloc | apply pw_below_drewN | apply below_drew1) | exact HB.out)⟩
                        · rw [if_neg c26] at H
                          have c26b0 : decide (1 < ((rdOf ByteArray.empty t417 x9_1).size : Int)) = false := decide_eq_false c26
                          have c26b1 : decide (1 < (rdOf ByteArray.empty t417 x9_1).size) = false := decide_eq_false (by omega)
                          clear c26
                          by_cases c37 : x8_1.size + (rdOf ByteArray.empty t417 x9_1).size ≤ 9223372036854775807
                          · rw [if_pos c37] at H
                            have c37b0 := eq_true c37
                            have c37b1 : decide (x8_1.size + (rdOf ByteArray.empty t417 x9_1).size ≤ 9223372036854775807) = true := decide_eq_true c37
                            try have c37b2 : (9223372036854775807 < x8_1.size + (rdOf ByteArray.empty t417 x9_1).size) = False := eq_false (Nat.not_lt.2 c37)
                            have H' := Aside0.mk H
                            clear H
                            have p428 : 0 ≤ (x9_1 : Int) := of_decide_eq_true (by first | (with_reducible assumption) | assumption)
                            have q428 : x9_1 < (t417.length : Int) := of_decide_eq_true (by first | (with_reducible assumption) | assumption)
                            obtain ⟨ad428, e428, hx428_0⟩ := Kd.at_string (Kd.R_reads' HO_6.out).2.2 x9_1 p428 q428
                            obtain rfl : ad421 = ad428 := (by injection e428)
                            replace p428 := eq_true p428
                            replace q428 := eq_true q428
                            go_wp2_with (first | (go_at_call 24; (with_reducible refine (impl_PartnersOf.calls kj11 (rdOf ByteArray.empty t417 x9_1) t429 t430 _ A24.out).mono ?_); rintro e w38 ⟨v431, rfl, ho0, hb⟩; have n0_ := Aside0.mk (Kd.R_below (by (with_reducible repeat (first | apply Kd.R_alloc | apply Kd.R_drewN | apply Kd.R_drew)); exact HO_6.out) hb); have n1_ := Aside0.mk (Kd.R_lower ho0 (below_size (by repeat (first | (with_reducible first | exact HB.out | apply below_alloc | apply pw_below_drewN | apply below_drew1) | exact HB.out)))); have n2_ := Aside0.mk (below_step (by repeat (first | (with_reducible first | exact HB.out | apply below_alloc | apply pw_below_drewN | apply below_drew1) | exact HB.out)) hb); clear HO_6; clear HB; have HO_6 := n0_; have HO432 := n1_; have HB := n2_; clear n0_ n1_ n2_; (try clear hb); (try clear hb2); (try clear hk); (try clear hi); (try clear ho0); have p433 : 0 ≤ (x9_1 : Int) := of_decide_eq_true (by first | (with_reducible assumption) | assumption); have q433 : x9_1 < (t417.length : Int) := of_decide_eq_true (by first | (with_reducible assumption) | assumption); obtain ⟨ad433, e433, hx433_0⟩ := Kd.at_string (Kd.R_reads' HO_6.out).2.2 x9_1 p433 q433; obtain rfl : ad421 = ad433 := (by injection e433); replace p433 := eq_true p433; replace q433 := eq_true q433; have p438 : 0 ≤ (x9_1 : Int) := of_decide_eq_true (by first | (with_reducible assumption) | assumption); have q438 : x9_1 < (t417.length : Int) := of_decide_eq_true (by first | (with_reducible assumption) | assumption); obtain ⟨ad438, e438, hx438_0⟩ := Kd.at_string (Kd.R_reads' HO_6.out).2.2 x9_1 p438 q438; obtain rfl : ad421 = ad438 := (by injection e438); replace p438 := eq_true p438; replace q438 := eq_true q438))
                            repeat (go_quiet (first | (go_at_call 24; (with_reducible refine (impl_PartnersOf.calls kj11 (rdOf ByteArray.empty t417 x9_1) t429 t430 _ A24.out).mono ?_); rintro e w38 ⟨v431, rfl, ho0, hb⟩; have n0_ := Aside0.mk (Kd.R_below (by (with_reducible repeat (first | apply Kd.R_alloc | apply Kd.R_drewN | apply Kd.R_drew)); exact HO_6.out) hb); have n1_ := Aside0.mk (Kd.R_lower ho0 (below_size (by repeat (first | (with_reducible first | exact HB.out | apply below_alloc | apply pw_below_drewN | apply below_drew1) | exact HB.out)))); have n2_ := Aside0.mk (below_step (by repeat (first | (with_reducible first | exact HB.out | apply below_alloc | apply pw_below_drewN | apply below_drew1) | exact HB.out)) hb); clear HO_6; clear HB; have HO_6 := n0_; have HO432 := n1_; have HB := n2_; clear n0_ n1_ n2_; (try clear hb); (try clear hb2); (try clear hk); (try clear hi); (try clear ho0); have p433 : 0 ≤ (x9_1 : Int) := of_decide_eq_true (by first | (with_reducible assumption) | assumption); have q433 : x9_1 < (t417.length : Int) := of_decide_eq_true (by first | (with_reducible assumption) | assumption); obtain ⟨ad433, e433, hx433_0⟩ := Kd.at_string (Kd.R_reads' HO_6.out).2.2 x9_1 p433 q433; obtain rfl : ad421 = ad433 := (by injection e433); replace p433 := eq_true p433; replace q433 := eq_true q433; have p438 : 0 ≤ (x9_1 : Int) := of_decide_eq_true (by first | (with_reducible assumption) | assumption); have q438 : x9_1 < (t417.length : Int) := of_decide_eq_true (by first | (with_reducible assumption) | assumption); obtain ⟨ad438, e438, hx438_0⟩ := Kd.at_string (Kd.R_reads' HO_6.out).2.2 x9_1 p438 q438; obtain rfl : ad421 = ad438 := (by injection e438); replace p438 := eq_true p438; replace q438 := eq_true q438)); try go_wp2_with (first | (go_at_call 24; (with_reducible refine (impl_PartnersOf.calls kj11 (rdOf ByteArray.empty t417 x9_1) t429 t430 _ A24.out).mono ?_); rintro e w38 ⟨v431, rfl, ho0, hb⟩; have n0_ := Aside0.mk (Kd.R_below (by (with_reducible repeat (first | apply Kd.R_alloc | apply Kd.R_drewN | apply Kd.R_drew)); exact HO_6.out) hb); have n1_ := Aside0.mk (Kd.R_lower ho0 (below_size (by repeat (first | (with_reducible first | exact HB.out | apply below_alloc | apply pw_below_drewN | apply below_drew1) | exact HB.out)))); have n2_ := Aside0.mk (below_step (by repeat (first | (with_reducible first | exact HB.out | apply below_alloc | apply pw_below_drewN | apply below_drew1) | exact HB.out)) hb); clear HO_6; clear HB; have HO_6 := n0_; have HO432 := n1_; have HB := n2_; clear n0_ n1_ n2_; (try clear hb); (try clear hb2); (try clear hk); (try clear hi); (try clear ho0); have p433 : 0 ≤ (x9_1 : Int) := of_decide_eq_true (by first | (with_reducible assumption) | assumption); have q433 : x9_1 < (t417.length : Int) := of_decide_eq_true (by first | (with_reducible assumption) | assumption); obtain ⟨ad433, e433, hx433_0⟩ := Kd.at_string (Kd.R_reads' HO_6.out).2.2 x9_1 p433 q433; obtain rfl : ad421 = ad433 := (by injection e433); replace p433 := eq_true p433; replace q433 := eq_true q433; have p438 : 0 ≤ (x9_1 : Int) := of_decide_eq_true (by first | (with_reducible assumption) | assumption); have q438 : x9_1 < (t417.length : Int) := of_decide_eq_true (by first | (with_reducible assumption) | assumption); obtain ⟨ad438, e438, hx438_0⟩ := Kd.at_string (Kd.R_reads' HO_6.out).2.2 x9_1 p438 q438; obtain rfl : ad421 = ad438 := (by injection e438); replace p438 := eq_true p438; replace q438 := eq_true q438)))
                            go_roundg kj11
                            case measure => have := HK1.out; have := HJ11.out; omega
                            case rel => exact ⟨(x8_1 ++ (rdOf ByteArray.empty t417 x9_1)), (wrap64 (x9_1 + 1)), (by first | rfl | (simp; done) | (simp [*]; done)), (by first | rfl | (simp; done) | (simp [*]; done)), H', ⟨by have := HK1.out; have := HJ11.out; omega⟩, ⟨by (with_reducible repeat (first | apply Kd.R_alloc | apply Kd.R_drewN | apply Kd.R_drew)); exact HO_6.out⟩, ⟨by repeat (first | (with_reducible first | exact HB.out | apply below_alloc | apply pw_below_drewN | apply below_drew1) | exact HB.out)⟩⟩
                          · rw [if_neg c37] at H
                            exact absurd H (by simp)
                      · rw [if_neg c25] at H
                        have c25b0 : (t430 == 0) = false := beq_eq_false_iff_ne.mpr c25
                        have c25b1 : (t430 != 0) = true := bne_iff_ne.mpr c25
                        obtain rfl := Option.some.inj H
                        have p428 : 0 ≤ (x9_1 : Int) := of_decide_eq_true (by first | (with_reducible assumption) | assumption)
                        have q428 : x9_1 < (t417.length : Int) := of_decide_eq_true (by first | (with_reducible assumption) | assumption)
                        obtain ⟨ad428, e428, hx428_0⟩ := Kd.at_string (Kd.R_reads' HO_6.out).2.2 x9_1 p428 q428
                        obtain rfl : ad421 = ad428 := (by injection e428)
                        replace p428 := eq_true p428
                        replace q428 := eq_true q428
                        go_wp2_with (first | (go_at_call 24; (with_reducible refine (impl_PartnersOf.calls kj11 (rdOf ByteArray.empty t417 x9_1) t429 t430 _ A24.out).mono ?_); rintro e w39 ⟨v431, rfl, ho0, hb⟩; have n0_ := Aside0.mk (Kd.R_below (by (with_reducible repeat (first | apply Kd.R_alloc | apply Kd.R_drewN | apply Kd.R_drew)); exact HO_6.out) hb); have n1_ := Aside0.mk (Kd.R_lower ho0 (below_size (by repeat (first | (with_reducible first | exact HB.out | apply below_alloc | apply pw_below_drewN | apply below_drew1) | exact HB.out)))); have n2_ := Aside0.mk (below_step (by repeat (first | (with_reducible first | exact HB.out | apply below_alloc | apply pw_below_drewN | apply below_drew1) | exact HB.out)) hb); clear HO_6; clear HB; have HO_6 := n0_; have HO432 := n1_; have HB := n2_; clear n0_ n1_ n2_; (try clear hb); (try clear hb2); (try clear hk); (try clear hi); (try clear ho0)))
                        repeat (go_quiet (first | (go_at_call 24; (with_reducible refine (impl_PartnersOf.calls kj11 (rdOf ByteArray.empty t417 x9_1) t429 t430 _ A24.out).mono ?_); rintro e w39 ⟨v431, rfl, ho0, hb⟩; have n0_ := Aside0.mk (Kd.R_below (by (with_reducible repeat (first | apply Kd.R_alloc | apply Kd.R_drewN | apply Kd.R_drew)); exact HO_6.out) hb); have n1_ := Aside0.mk (Kd.R_lower ho0 (below_size (by repeat (first | (with_reducible first | exact HB.out | apply below_alloc | apply pw_below_drewN | apply below_drew1) | exact HB.out)))); have n2_ := Aside0.mk (below_step (by repeat (first | (with_reducible first | exact HB.out | apply below_alloc | apply pw_below_drewN | apply below_drew1) | exact HB.out)) hb); clear HO_6; clear HB; have HO_6 := n0_; have HO432 := n1_; have HB := n2_; clear n0_ n1_ n2_; (try clear hb); (try clear hb2); (try clear hk); (try clear hi); (try clear ho0))); try go_wp2_with (first | (go_at_call 24; (with_reducible refine (impl_PartnersOf.calls kj11 (rdOf ByteArray.empty t417 x9_1) t429 t430 _ A24.out).mono ?_); rintro e w39 ⟨v431, rfl, ho0, hb⟩; have n0_ := Aside0.mk (Kd.R_below (by (with_reducible repeat (first | apply Kd.R_alloc | apply Kd.R_drewN | apply Kd.R_drew)); exact HO_6.out) hb); have n1_ := Aside0.mk (Kd.R_lower ho0 (below_size (by repeat (first | (with_reducible first | exact HB.out | apply below_alloc | apply pw_below_drewN | apply below_drew1) | exact HB.out)))); have n2_ := Aside0.mk (below_step (by repeat (first | (with_reducible first | exact HB.out | apply below_alloc | apply pw_below_drewN | apply below_drew1) | exact HB.out)) hb); clear HO_6; clear HB; have HO_6 := n0_; have HO432 := n1_; have HB := n2_; clear n0_ n1_ n2_; (try clear hb); (try clear hb2); (try clear hk); (try clear hi); (try clear ho0))))
                        go_ret
                        exact ⟨by first | rfl | (simp [errW_none, errW_some] <;> rfl) | (simp [*, errW_none, errW_some] <;> rfl), by repeat (first | (with_reducible first | exact HB.out | apply below_alloc | apply pw_below_drewN | apply below_drew1) | exact HB.out)⟩
                    · rw [if_neg c23] at H
                      exact absurd H (by simp)
                  · rw [if_neg c22] at H
                    exact absurd H (by simp)
          · rw [if_neg c10] at H
            exact absurd H (by simp)
        · as_aux_lemma =>
          rw [if_neg c9] at H
          have c9b0 : decide (x9_1 < (t417.length : Int)) = false := decide_eq_false c9
          clear c9
          have HC40 := Aside0.mk H
          clear H
          obtain ⟨Ao41, co41, eo41⟩ := Kd.R_slice HO_6.out
          subst eo41
          go_upto_region 16 with (fail)
          repeat (go_quiet (fail); go_upto_region 16 with (fail))
          go_cut [130] (fun v130 wc => ∃ (kq : Nat) (x130_39 : Bool), v130 = .bool x130_39 ∧ Aside0 (laws_FnTrees.j2 kq l1 x130_39 = some r) ∧ Aside0 (kq ≤ k1) ∧ Aside0 (Below w.heap.size w wc))
          case first =>
            have H := HC40.out
            clear HC40
            by_cases c42 : t418 = 0
            · rw [if_pos c42] at H
              have c42b0 : (t418 == 0) = true := beq_iff_eq.mpr c42
              have c42b1 : (t418 != 0) = false := bne_eq_false_iff_eq.mpr c42
              clear c42
              (first | rw [c42b0] | rw [c42b1] | (simp only [i64_w, i32_w]; rw [c42b0]) | skip)
              have H' := Aside0.mk H
              clear H
              go_wp2
              repeat (go_quiet (fail); try go_wp2)
              go_meet
              case rel => exact ⟨_, ((x8_1.toList != t416.toList)), (by first | rfl | (simp; done) | (simp [*]; done)), H', ⟨by have := HK1.out; first | omega | exact Nat.le_refl _⟩, ⟨by repeat (first | (with_reducible first | exact HB.out | apply below_alloc | apply pw_below_drewN | apply below_drew1) | exact HB.out)⟩⟩
            · rw [if_neg c42] at H
              have c42b0 : (t418 == 0) = false := beq_eq_false_iff_ne.mpr c42
              have c42b1 : (t418 != 0) = true := bne_iff_ne.mpr c42
              (first | rw [c42b0] | rw [c42b1] | (simp only [i64_w, i32_w]; rw [c42b0]) | skip)
              have H' := Aside0.mk H
              clear H
              go_wp2
              repeat (go_quiet (fail); try go_wp2)
              go_meet
              case rel => exact ⟨_, (true), (by first | rfl | (simp; done) | (simp [*]; done)), H', ⟨by have := HK1.out; first | omega | exact Nat.le_refl _⟩, ⟨by repeat (first | (with_reducible first | exact HB.out | apply below_alloc | apply pw_below_drewN | apply below_drew1) | exact HB.out)⟩⟩
          case rest =>
            clear HC40
            try clear c1
            try clear p1
            try clear q1
            try clear hx1
            try clear qi1
            try clear c2
            try clear p2
            try clear c3
            try clear c4
            try clear p4
            try clear q4
            try clear hx4
            try clear qi4
            try clear c5
            try clear p6
            try clear c9
            try clear c9b0
            try clear c10
            try clear c10b0
            try clear c15
            try clear c15b0
            try clear c15b1
            try clear c16
            try clear c17
            try clear c17b0
            try clear c17b1
            try clear c18
            try clear c18b0
            try clear c18b1
            try clear p19
            try clear q19
            try clear hx19
            try clear qi19
            try clear c21
            try clear c22
            try clear c22b0
            try clear c23
            try clear c23b0
            try clear c25
            try clear c25b0
            try clear c25b1
            try clear c26
            try clear c26b0
            try clear c26b1
            try clear c27
            try clear c27b0
            try clear c27b1
            try clear c27b2
            try clear c28
            try clear c28b0
            try clear c28b1
            try clear c29
            try clear c29b0
            try clear c29b1
            try clear c30
            try clear c30b0
            try clear c30b1
            try clear c30b2
            try clear c37
            try clear c37b0
            try clear c37b1
            try clear c37b2
            try clear c42
            try clear c42b0
            try clear c42b1
            try clear p42
            try clear q42
            try clear hx42
            try clear hx421_0
            try clear hx424_0
            try clear hx425_0
            try clear hx426_0
            try clear hx428_0
            try clear hx433_0
            try clear hx434_0
            try clear hx435_0
            try clear hx436_0
            try clear hx437_0
            try clear hx438_0
            try clear p1
            try clear p19
            try clear p2
            try clear p4
            try clear p421
            try clear p424
            try clear p425
            try clear p426
            try clear p428
            try clear p433
            try clear p434
            try clear p435
            try clear p436
            try clear p437
            try clear p438
            try clear q1
            try clear q19
            try clear q4
            try clear q421
            try clear q424
            try clear q425
            try clear q426
            try clear q428
            try clear q433
            try clear q434
            try clear q435
            try clear q436
            try clear q437
            try clear q438
            obtain ⟨kq, x130_39, rfl, HA, HJ39, HB⟩ := hcut
            cases kq with
            | zero => exact absurd HA.out (by simp [laws_FnTrees.j2])
            | succ kj39 =>
              have H := HA.out
              clear HA
              simp only [laws_FnTrees.j2] at H
              by_cases c43 : x130_39 = true
              · subst c43
                have H1 : (some false) = some r := by rw [if_pos rfl] at H; exact H
                clear H
                have H := H1
                clear H1
                obtain rfl := Option.some.inj H
                go_wp2
                repeat (go_quiet (fail); try go_wp2)
                go_ret
                exact ⟨by first | rfl | (simp [errW_none, errW_some] <;> rfl) | (simp [*, errW_none, errW_some] <;> rfl), by repeat (first | (with_reducible first | exact HB.out | apply below_alloc | apply pw_below_drewN | apply below_drew1) | exact HB.out)⟩
              · as_aux_lemma =>
                replace c43 := Bool.eq_false_iff.mpr c43
                subst c43
                have H1 : ((spec_A2Word.f kj39 l1 14).bind fun t439 => ((impl_ParentsOf.f kj39 t439).bind fun bt440 => ((spec_PartnersOf.f kj39 t439).bind fun bt444 => (if bt440.2 = 0 then (if bt444.2 = 0 then (laws_FnTrees.j3 kj39 t439 bt440.1 bt444.1 ((bt440.1.length : Int) != (t439.size : Int))) else (laws_FnTrees.j3 kj39 t439 bt440.1 bt444.1 true)) else (laws_FnTrees.j3 kj39 t439 bt440.1 bt444.1 true))))) = some r := by rw [if_neg (show ¬ (false = true) by decide)] at H; exact H
                clear H
                have H := H1
                clear H1
                replace H := Option.bind_eq_some_iff.mp H
                obtain ⟨t439, A440, H⟩ := H
                replace H : ((impl_ParentsOf.f kj39 t439).bind fun bt440 => ((spec_PartnersOf.f kj39 t439).bind fun bt444 => (if bt440.2 = 0 then (if bt444.2 = 0 then (laws_FnTrees.j3 kj39 t439 bt440.1 bt444.1 ((bt440.1.length : Int) != (t439.size : Int))) else (laws_FnTrees.j3 kj39 t439 bt440.1 bt444.1 true)) else (laws_FnTrees.j3 kj39 t439 bt440.1 bt444.1 true)))) = some r := H
                have A44 := Aside0.mk A440
                clear A440
                replace H := Option.bind_eq_some_iff.mp H
                obtain ⟨⟨t440, t441⟩, A450, H⟩ := H
                replace H : ((spec_PartnersOf.f kj39 t439).bind fun bt444 => (if t441 = 0 then (if bt444.2 = 0 then (laws_FnTrees.j3 kj39 t439 t440 bt444.1 ((t440.length : Int) != (t439.size : Int))) else (laws_FnTrees.j3 kj39 t439 t440 bt444.1 true)) else (laws_FnTrees.j3 kj39 t439 t440 bt444.1 true))) = some r := H
                have A45 := Aside0.mk A450
                clear A450
                replace H := Option.bind_eq_some_iff.mp H
                obtain ⟨⟨t444, t445⟩, A460, H⟩ := H
                replace H : (if t441 = 0 then (if t445 = 0 then (laws_FnTrees.j3 kj39 t439 t440 t444 ((t440.length : Int) != (t439.size : Int))) else (laws_FnTrees.j3 kj39 t439 t440 t444 true)) else (laws_FnTrees.j3 kj39 t439 t440 t444 true)) = some r := H
                have A46 := Aside0.mk A460
                clear A460
                have HC47 := Aside0.mk H
                clear H
                go_upto_region 21 with (first | (go_at_call 25; (with_reducible refine (spec_A2Word.calls kj39 _ _ l1 14 t439 _ ?side1 ?side2 A44.out).mono ?_); (case side1 => repeat (first | exact (Kd.C_below HR1.out HB.out) | (with_reducible refine Kd.C_alloc ?_ _) | (with_reducible refine Kd.C_drewN ?_ _) | (with_reducible refine Kd.C_drew ?_))); (case side2 => exact HC1.out); rintro e w48 ⟨rfl, hb⟩; have n0_ := Aside0.mk (below_step (by repeat (first | (with_reducible first | exact HB.out | apply below_alloc | apply pw_below_drewN | apply below_drew1) | exact HB.out)) hb); clear HB; have HB := n0_; clear n0_; (try clear hb); (try clear hb2); (try clear hk); (try clear hi)) | (go_at_call 26; (with_reducible refine (impl_ParentsOf.calls kj39 t439 t440 t441 _ A45.out).mono ?_); rintro e w49 ⟨v442, rfl, ho0, hb⟩; have n0_ := Aside0.mk (Kd.R_lower ho0 (below_size (by repeat (first | (with_reducible first | exact HB.out | apply below_alloc | apply pw_below_drewN | apply below_drew1) | exact HB.out)))); have n1_ := Aside0.mk (below_step (by repeat (first | (with_reducible first | exact HB.out | apply below_alloc | apply pw_below_drewN | apply below_drew1) | exact HB.out)) hb); clear HB; have HO443 := n0_; have HB := n1_; clear n0_ n1_; (try clear hb); (try clear hb2); (try clear hk); (try clear hi); (try clear ho0)) | (go_at_call 27; (with_reducible refine (spec_PartnersOf.calls kj39 t439 t444 t445 _ A46.out).mono ?_); rintro e w50 ⟨v446, rfl, ho0, hb⟩; have n0_ := Aside0.mk (Kd.R_elder' (by (with_reducible repeat (first | apply Kd.R_alloc | apply Kd.R_drewN | apply Kd.R_drew)); exact HO443.out) (Kd.R_base ho0) hb); have n1_ := Aside0.mk (Kd.R_lower (Kd.R_new' ho0 (Kd.R_lt (by (with_reducible repeat (first | apply Kd.R_alloc | apply Kd.R_drewN | apply Kd.R_drew)); exact HO443.out))) (below_size (by repeat (first | (with_reducible first | exact HB.out | apply below_alloc | apply pw_below_drewN | apply below_drew1) | exact HB.out)))); have n2_ := Aside0.mk (below_step (by repeat (first | (with_reducible first | exact HB.out | apply below_alloc | apply pw_below_drewN | apply below_drew1) | exact HB.out)) hb); clear HO443; clear HB; have HO443 := n0_; have HO447 := n1_; have HB := n2_; clear n0_ n1_ n2_; (try clear hb); (try clear hb2); (try clear hk); (try clear hi); (try clear ho0)))
                repeat (go_quiet (first | (go_at_call 25; (with_reducible refine (spec_A2Word.calls kj39 _ _ l1 14 t439 _ ?side1 ?side2 A44.out).mono ?_); (case side1 => repeat (first | exact (Kd.C_below HR1.out HB.out) | (with_reducible refine Kd.C_alloc ?_ _) | (with_reducible refine Kd.C_drewN ?_ _) | (with_reducible refine Kd.C_drew ?_))); (case side2 => exact HC1.out); rintro e w48 ⟨rfl, hb⟩; have n0_ := Aside0.mk (below_step (by repeat (first | (with_reducible first | exact HB.out | apply below_alloc | apply pw_below_drewN | apply below_drew1) | exact HB.out)) hb); clear HB; have HB := n0_; clear n0_; (try clear hb); (try clear hb2); (try clear hk); (try clear hi)) | (go_at_call 26; (with_reducible refine (impl_ParentsOf.calls kj39 t439 t440 t441 _ A45.out).mono ?_); rintro e w49 ⟨v442, rfl, ho0, hb⟩; have n0_ := Aside0.mk (Kd.R_lower ho0 (below_size (by repeat (first | (with_reducible first | exact HB.out | apply below_alloc | apply pw_below_drewN | apply below_drew1) | exact HB.out)))); have n1_ := Aside0.mk (below_step (by repeat (first | (with_reducible first | exact HB.out | apply below_alloc | apply pw_below_drewN | apply below_drew1) | exact HB.out)) hb); clear HB; have HO443 := n0_; have HB := n1_; clear n0_ n1_; (try clear hb); (try clear hb2); (try clear hk); (try clear hi); (try clear ho0)) | (go_at_call 27; (with_reducible refine (spec_PartnersOf.calls kj39 t439 t444 t445 _ A46.out).mono ?_); rintro e w50 ⟨v446, rfl, ho0, hb⟩; have n0_ := Aside0.mk (Kd.R_elder' (by (with_reducible repeat (first | apply Kd.R_alloc | apply Kd.R_drewN | apply Kd.R_drew)); exact HO443.out) (Kd.R_base ho0) hb); have n1_ := Aside0.mk (Kd.R_lower (Kd.R_new' ho0 (Kd.R_lt (by (with_reducible repeat (first | apply Kd.R_alloc | apply Kd.R_drewN | apply Kd.R_drew)); exact HO443.out))) (below_size (by repeat (first | (with_reducible first | exact HB.out | apply below_alloc | apply pw_below_drewN | apply below_drew1) | exact HB.out)))); have n2_ := Aside0.mk (below_step (by repeat (first | (with_reducible first | exact HB.out | apply below_alloc | apply pw_below_drewN | apply below_drew1) | exact HB.out)) hb); clear HO443; clear HB; have HO443 := n0_; have HO447 := n1_; have HB := n2_; clear n0_ n1_ n2_; (try clear hb); (try clear hb2); (try clear hk); (try clear hi); (try clear ho0))); go_upto_region 21 with (first | (go_at_call 25; (with_reducible refine (spec_A2Word.calls kj39 _ _ l1 14 t439 _ ?side1 ?side2 A44.out).mono ?_); (case side1 => repeat (first | exact (Kd.C_below HR1.out HB.out) | (with_reducible refine Kd.C_alloc ?_ _) | (with_reducible refine Kd.C_drewN ?_ _) | (with_reducible refine Kd.C_drew ?_))); (case side2 => exact HC1.out); rintro e w48 ⟨rfl, hb⟩; have n0_ := Aside0.mk (below_step (by repeat (first | (with_reducible first | exact HB.out | apply below_alloc | apply pw_below_drewN | apply below_drew1) | exact HB.out)) hb); clear HB; have HB := n0_; clear n0_; (try clear hb); (try clear hb2); (try clear hk); (try clear hi)) | (go_at_call 26; (with_reducible refine (impl_ParentsOf.calls kj39 t439 t440 t441 _ A45.out).mono ?_); rintro e w49 ⟨v442, rfl, ho0, hb⟩; have n0_ := Aside0.mk (Kd.R_lower ho0 (below_size (by repeat (first | (with_reducible first | exact HB.out | apply below_alloc | apply pw_below_drewN | apply below_drew1) | exact HB.out)))); have n1_ := Aside0.mk (below_step (by repeat (first | (with_reducible first | exact HB.out | apply below_alloc | apply pw_below_drewN | apply below_drew1) | exact HB.out)) hb); clear HB; have HO443 := n0_; have HB := n1_; clear n0_ n1_; (try clear hb); (try clear hb2); (try clear hk); (try clear hi); (try clear ho0)) | (go_at_call 27; (with_reducible refine (spec_PartnersOf.calls kj39 t439 t444 t445 _ A46.out).mono ?_); rintro e w50 ⟨v446, rfl, ho0, hb⟩; have n0_ := Aside0.mk (Kd.R_elder' (by (with_reducible repeat (first | apply Kd.R_alloc | apply Kd.R_drewN | apply Kd.R_drew)); exact HO443.out) (Kd.R_base ho0) hb); have n1_ := Aside0.mk (Kd.R_lower (Kd.R_new' ho0 (Kd.R_lt (by (with_reducible repeat (first | apply Kd.R_alloc | apply Kd.R_drewN | apply Kd.R_drew)); exact HO443.out))) (below_size (by repeat (first | (with_reducible first | exact HB.out | apply below_alloc | apply pw_below_drewN | apply below_drew1) | exact HB.out)))); have n2_ := Aside0.mk (below_step (by repeat (first | (with_reducible first | exact HB.out | apply below_alloc | apply pw_below_drewN | apply below_drew1) | exact HB.out)) hb); clear HO443; clear HB; have HO443 := n0_; have HO447 := n1_; have HB := n2_; clear n0_ n1_ n2_; (try clear hb); (try clear hb2); (try clear hk); (try clear hi); (try clear ho0))))
                (try simp only [Act.put, List.setIfInBounds_toArray, List.set_cons_zero, List.set_cons_succ])
                go_cut [155] (fun v155 wc => ∃ (kq : Nat) (x155_46 : Bool), v155 = .bool x155_46 ∧ Aside0 (laws_FnTrees.j3 kq t439 t440 t444 x155_46 = some r) ∧ Aside0 (kq ≤ kj39) ∧ Aside0 (Kd.R (Kd.int .i64) 2 wc w.heap.size (fun k_ => some k_ ≠ (v446 : Value).ownBlock) v442 t440) ∧ Aside0 (Kd.R (Kd.int .i64) 2 wc w.heap.size (fun k_ => some k_ ≠ (v442 : Value).ownBlock) v446 t444) ∧ Aside0 (Below w.heap.size w wc))
                case first =>
                  have H := HC47.out
                  clear HC47
                  by_cases c51 : t441 = 0
                  · rw [if_pos c51] at H
                    have c51b0 : (t441 == 0) = true := beq_iff_eq.mpr c51
                    have c51b1 : (t441 != 0) = false := bne_eq_false_iff_eq.mpr c51
                    clear c51
                    (first | rw [c51b0] | rw [c51b1] | (simp only [i64_w, i32_w]; rw [c51b0]) | skip)
                    by_cases c52 : t445 = 0
                    · rw [if_pos c52] at H
                      have c52b0 : (t445 == 0) = true := beq_iff_eq.mpr c52
                      have c52b1 : (t445 != 0) = false := bne_eq_false_iff_eq.mpr c52
                      clear c52
                      have H' := Aside0.mk H
                      clear H
                      obtain ⟨Ao53, co53, eo53⟩ := Kd.R_slice HO443.out
                      subst eo53
                      go_wp2
                      repeat (go_quiet (fail); try go_wp2)
                      go_meet
                      case rel => exact ⟨_, (((t440.length : Int) != (t439.size : Int))), (by first | rfl | (simp; done) | (simp [*]; done)), H', ⟨by have := HK1.out; have := HJ39.out; first | omega | exact Nat.le_refl _⟩, ⟨by (with_reducible repeat (first | apply Kd.R_alloc | apply Kd.R_drewN | apply Kd.R_drew)); exact Kd.R_mono HO443.out (fun _ hk => hk.2)⟩, ⟨by (with_reducible repeat (first | apply Kd.R_alloc | apply Kd.R_drewN | apply Kd.R_drew)); exact Kd.R_mono HO447.out (fun _ hk => hk.2)⟩, ⟨by repeat (first | (with_reducible first | exact HB.out | apply below_alloc | apply pw_below_drewN | apply below_drew1) | exact HB.out)⟩⟩
                    · rw [if_neg c52] at H
                      have c52b0 : (t445 == 0) = false := beq_eq_false_iff_ne.mpr c52
                      have c52b1 : (t445 != 0) = true := bne_iff_ne.mpr c52
                      have H' := Aside0.mk H
                      clear H
                      go_wp2
                      repeat (go_quiet (fail); try go_wp2)
                      go_meet
                      case rel => exact ⟨_, (true), (by first | rfl | (simp; done) | (simp [*]; done)), H', ⟨by have := HK1.out; have := HJ39.out; first | omega | exact Nat.le_refl _⟩, ⟨by (with_reducible repeat (first | apply Kd.R_alloc | apply Kd.R_drewN | apply Kd.R_drew)); exact Kd.R_mono HO443.out (fun _ hk => hk.2)⟩, ⟨by (with_reducible repeat (first | apply Kd.R_alloc | apply Kd.R_drewN | apply Kd.R_drew)); exact Kd.R_mono HO447.out (fun _ hk => hk.2)⟩, ⟨by repeat (first | (with_reducible first | exact HB.out | apply below_alloc | apply pw_below_drewN | apply below_drew1) | exact HB.out)⟩⟩
                  · rw [if_neg c51] at H
                    have c51b0 : (t441 == 0) = false := beq_eq_false_iff_ne.mpr c51
                    have c51b1 : (t441 != 0) = true := bne_iff_ne.mpr c51
                    (first | rw [c51b0] | rw [c51b1] | (simp only [i64_w, i32_w]; rw [c51b0]) | skip)
                    have H' := Aside0.mk H
                    clear H
                    go_wp2
                    repeat (go_quiet (fail); try go_wp2)
                    go_meet
                    case rel => exact ⟨_, (true), (by first | rfl | (simp; done) | (simp [*]; done)), H', ⟨by have := HK1.out; have := HJ39.out; first | omega | exact Nat.le_refl _⟩, ⟨by (with_reducible repeat (first | apply Kd.R_alloc | apply Kd.R_drewN | apply Kd.R_drew)); exact Kd.R_mono HO443.out (fun _ hk => hk.2)⟩, ⟨by (with_reducible repeat (first | apply Kd.R_alloc | apply Kd.R_drewN | apply Kd.R_drew)); exact Kd.R_mono HO447.out (fun _ hk => hk.2)⟩, ⟨by repeat (first | (with_reducible first | exact HB.out | apply below_alloc | apply pw_below_drewN | apply below_drew1) | exact HB.out)⟩⟩
                case rest =>
                  clear HC47
                  try clear c1
                  try clear p1
                  try clear q1
                  try clear hx1
                  try clear qi1
                  try clear c2
                  try clear p2
                  try clear c3
                  try clear c4
                  try clear p4
                  try clear q4
                  try clear hx4
                  try clear qi4
                  try clear c5
                  try clear p6
                  try clear c9
                  try clear c9b0
                  try clear c10
                  try clear c10b0
                  try clear c15
                  try clear c15b0
                  try clear c15b1
                  try clear c16
                  try clear c17
                  try clear c17b0
                  try clear c17b1
                  try clear c18
                  try clear c18b0
                  try clear c18b1
                  try clear p19
                  try clear q19
                  try clear hx19
                  try clear qi19
                  try clear c21
                  try clear c22
                  try clear c22b0
                  try clear c23
                  try clear c23b0
                  try clear c25
                  try clear c25b0
                  try clear c25b1
                  try clear c26
                  try clear c26b0
                  try clear c26b1
                  try clear c27
                  try clear c27b0
                  try clear c27b1
                  try clear c27b2
                  try clear c28
                  try clear c28b0
                  try clear c28b1
                  try clear c29
                  try clear c29b0
                  try clear c29b1
                  try clear c30
                  try clear c30b0
                  try clear c30b1
                  try clear c30b2
                  try clear c37
                  try clear c37b0
                  try clear c37b1
                  try clear c37b2
                  try clear c42
                  try clear c42b0
                  try clear c42b1
                  try clear p42
                  try clear q42
                  try clear hx42
                  try clear c43
                  try clear p43
                  try clear q43
                  try clear hx43
                  try clear qi43
                  try clear c51
                  try clear c51b0
                  try clear c51b1
                  try clear c52
                  try clear c52b0
                  try clear c52b1
                  try clear hx421_0
                  try clear hx424_0
                  try clear hx425_0
                  try clear hx426_0
                  try clear hx428_0
                  try clear hx433_0
                  try clear hx434_0
                  try clear hx435_0
                  try clear hx436_0
                  try clear hx437_0
                  try clear hx438_0
                  try clear p1
                  try clear p19
                  try clear p2
                  try clear p4
                  try clear p42
                  try clear p421
                  try clear p424
                  try clear p425
                  try clear p426
                  try clear p428
                  try clear p433
                  try clear p434
                  try clear p435
                  try clear p436
                  try clear p437
                  try clear p438
                  try clear p6
                  try clear q1
                  try clear q19
                  try clear q4
                  try clear q42
                  try clear q421
                  try clear q424
                  try clear q425
                  try clear q426
                  try clear q428
                  try clear q433
                  try clear q434
                  try clear q435
                  try clear q436
                  try clear q437
                  try clear q438
                  obtain ⟨kq, x155_46, rfl, HA, HJ46, HO_15, HO_17, HB⟩ := hcut
                  cases kq with
                  | zero => exact absurd HA.out (by simp [laws_FnTrees.j3])
                  | succ kj46 =>
                    have H := HA.out
                    clear HA
                    simp only [laws_FnTrees.j3] at H
                    by_cases c54 : x155_46 = true
                    · subst c54
                      have H1 : (some false) = some r := by rw [if_pos rfl] at H; exact H
                      clear H
                      have H := H1
                      clear H1
                      obtain rfl := Option.some.inj H
                      go_wp2
                      repeat (go_quiet (fail); try go_wp2)
                      go_ret
                      exact ⟨by first | rfl | (simp [errW_none, errW_some] <;> rfl) | (simp [*, errW_none, errW_some] <;> rfl), by repeat (first | (with_reducible first | exact HB.out | apply below_alloc | apply pw_below_drewN | apply below_drew1) | exact HB.out)⟩
                    · as_aux_lemma =>
                      replace c54 := Bool.eq_false_iff.mpr c54
                      subst c54
                      have H1 : (laws_FnTrees.l1 kj46 t439 t440 t444 0 (-1)) = some r := by rw [if_neg (show ¬ (false = true) by decide)] at H; exact H
                      clear H
                      have H := H1
                      clear H1
                      have H' := Aside0.mk H
                      clear H
                      go_wp2
                      repeat (go_quiet (fail); try go_wp2)
                      go_loopg [19, 20] kj46 (fun kq v19 v20 w' => ∃ (x19_4 : Int) (x20_4 : Int), v19 = .int .i64 x19_4 ∧ v20 = .int .i64 x20_4 ∧ Aside0 (laws_FnTrees.l1 kq t439 t440 t444 x19_4 x20_4 = some r) ∧ Aside0 (kq ≤ kj46) ∧ Aside0 (Kd.R (Kd.int .i64) 2 w' w.heap.size (fun k_ => some k_ ≠ (v446 : Value).ownBlock) v442 t440) ∧ Aside0 (Kd.R (Kd.int .i64) 2 w' w.heap.size (fun k_ => some k_ ≠ (v442 : Value).ownBlock) v446 t444) ∧ Aside0 (Below w.heap.size w w'))
                      case atStart => exact ⟨(0), ((-1)), (by first | rfl | (simp; done) | (simp [*]; done)), (by first | rfl | (simp; done) | (simp [*]; done)), H', ⟨Nat.le_refl _⟩, ⟨by (with_reducible repeat (first | apply Kd.R_alloc | apply Kd.R_drewN | apply Kd.R_drew)); exact HO_15.out⟩, ⟨by (with_reducible repeat (first | apply Kd.R_alloc | apply Kd.R_drewN | apply Kd.R_drew)); exact HO_17.out⟩, ⟨by repeat (first | (with_reducible first | exact HB.out | apply below_alloc | apply pw_below_drewN | apply below_drew1) | exact HB.out)⟩⟩
                      case round =>
                        clear H'
                        try clear c1
                        try clear p1
                        try clear q1
                        try clear hx1
                        try clear qi1
                        try clear c2
                        try clear p2
                        try clear c3
                        try clear c4
                        try clear p4
                        try clear q4
                        try clear hx4
                        try clear qi4
                        try clear c5
                        try clear p6
                        try clear c9
                        try clear c9b0
                        try clear c10
                        try clear c10b0
                        try clear c15
                        try clear c15b0
                        try clear c15b1
                        try clear c16
                        try clear c17
                        try clear c17b0
                        try clear c17b1
                        try clear c18
                        try clear c18b0
                        try clear c18b1
                        try clear p19
                        try clear q19
                        try clear hx19
                        try clear qi19
                        try clear c21
                        try clear c22
                        try clear c22b0
                        try clear c23
                        try clear c23b0
                        try clear c25
                        try clear c25b0
                        try clear c25b1
                        try clear c26
                        try clear c26b0
                        try clear c26b1
                        try clear c27
                        try clear c27b0
                        try clear c27b1
                        try clear c27b2
                        try clear c28
                        try clear c28b0
                        try clear c28b1
                        try clear c29
                        try clear c29b0
                        try clear c29b1
                        try clear c30
                        try clear c30b0
                        try clear c30b1
                        try clear c30b2
                        try clear c37
                        try clear c37b0
                        try clear c37b1
                        try clear c37b2
                        try clear c42
                        try clear c42b0
                        try clear c42b1
                        try clear p42
                        try clear q42
                        try clear hx42
                        try clear c43
                        try clear p43
                        try clear q43
                        try clear hx43
                        try clear qi43
                        try clear c51
                        try clear c51b0
                        try clear c51b1
                        try clear c52
                        try clear c52b0
                        try clear c52b1
                        try clear c54
                        try clear hx421_0
                        try clear hx424_0
                        try clear hx425_0
                        try clear hx426_0
                        try clear hx428_0
                        try clear hx433_0
                        try clear hx434_0
                        try clear hx435_0
                        try clear hx436_0
                        try clear hx437_0
                        try clear hx438_0
                        try clear p1
                        try clear p19
                        try clear p2
                        try clear p4
                        try clear p42
                        try clear p421
                        try clear p424
                        try clear p425
                        try clear p426
                        try clear p428
                        try clear p43
                        try clear p433
                        try clear p434
                        try clear p435
                        try clear p436
                        try clear p437
                        try clear p438
                        try clear p6
                        try clear q1
                        try clear q19
                        try clear q4
                        try clear q42
                        try clear q421
                        try clear q424
                        try clear q425
                        try clear q426
                        try clear q428
                        try clear q43
                        try clear q433
                        try clear q434
                        try clear q435
                        try clear q436
                        try clear q437
                        try clear q438
                        obtain ⟨x19_4, x20_4, rfl, rfl, HA, HK4, HO_15, HO_17, HB⟩ := hrel
                        cases gk with
                        | zero => exact absurd HA.out (by simp [laws_FnTrees.l1])
                        | succ k4 =>
                          have H := HA.out
                          clear HA
                          simp only [laws_FnTrees.l1] at H
                          by_cases c55 : x20_4 < (t439.size : Int)
                          · as_aux_lemma =>
                            rw [if_pos c55] at H
                            have c55b0 : decide (x20_4 < (t439.size : Int)) = true := decide_eq_true c55
                            clear c55
                            replace H := Option.bind_eq_some_iff.mp H
                            obtain ⟨⟨t448, t449⟩, A560, H⟩ := H
                            replace H : (if t449 = 0 then (if x20_4 ≥ 0 then (if 0 ≤ x20_4 then ((laws_a2Call.f (bt t439 x20_4)).bind fun t452 => (if t452 = true then (laws_FnTrees.j5 k4 t439 t440 t444 x19_4 x20_4 t448 false) else (laws_FnTrees.j5 k4 t439 t440 t444 x19_4 x20_4 t448 (decide ((t448.length : Int) > 0))))) else (none)) else (laws_FnTrees.j5 k4 t439 t440 t444 x19_4 x20_4 t448 false)) else (laws_FnTrees.j5 k4 t439 t440 t444 x19_4 x20_4 t448 true)) = some r := H
                            have A56 := Aside0.mk A560
                            clear A560
                            have HC57 := Aside0.mk H
                            clear H
                            go_upto_region 28 with (first | (go_at_call 28; (with_reducible refine (impl_ChildrenOf.calls k4 t439 x20_4 t448 t449 _ A56.out).mono ?_); rintro e w58 ⟨v450, rfl, ho0, hb⟩; have n0_ := Aside0.mk (Kd.R_elder' (by (with_reducible repeat (first | apply Kd.R_alloc | apply Kd.R_drewN | apply Kd.R_drew)); exact HO_15.out) (Kd.R_base ho0) hb); have n1_ := Aside0.mk (Kd.R_elder' (by (with_reducible repeat (first | apply Kd.R_alloc | apply Kd.R_drewN | apply Kd.R_drew)); exact HO_17.out) (Kd.R_base ho0) hb); have n2_ := Aside0.mk (Kd.R_lower (Kd.R_new' (Kd.R_new' ho0 (Kd.R_lt (by (with_reducible repeat (first | apply Kd.R_alloc | apply Kd.R_drewN | apply Kd.R_drew)); exact HO_15.out))) (Kd.R_lt (by (with_reducible repeat (first | apply Kd.R_alloc | apply Kd.R_drewN | apply Kd.R_drew)); exact HO_17.out))) (below_size (by repeat (first | (with_reducible first | exact HB.out | apply below_alloc | apply pw_below_drewN | apply below_drew1) | exact HB.out)))); have n3_ := Aside0.mk (below_step (by repeat (first | (with_reducible first | exact HB.out | apply below_alloc | apply pw_below_drewN | apply below_drew1) | exact HB.out)) hb); clear HO_15; clear HO_17; clear HB; have HO_15 := n0_; have HO_17 := n1_; have HO451 := n2_; have HB := n3_; clear n0_ n1_ n2_ n3_; (try clear hb); (try clear hb2); (try clear hk); (try clear hi); (try clear ho0)))
                            repeat (go_quiet (first | (go_at_call 28; (with_reducible refine (impl_ChildrenOf.calls k4 t439 x20_4 t448 t449 _ A56.out).mono ?_); rintro e w58 ⟨v450, rfl, ho0, hb⟩; have n0_ := Aside0.mk (Kd.R_elder' (by (with_reducible repeat (first | apply Kd.R_alloc | apply Kd.R_drewN | apply Kd.R_drew)); exact HO_15.out) (Kd.R_base ho0) hb); have n1_ := Aside0.mk (Kd.R_elder' (by (with_reducible repeat (first | apply Kd.R_alloc | apply Kd.R_drewN | apply Kd.R_drew)); exact HO_17.out) (Kd.R_base ho0) hb); have n2_ := Aside0.mk (Kd.R_lower (Kd.R_new' (Kd.R_new' ho0 (Kd.R_lt (by (with_reducible repeat (first | apply Kd.R_alloc | apply Kd.R_drewN | apply Kd.R_drew)); exact HO_15.out))) (Kd.R_lt (by (with_reducible repeat (first | apply Kd.R_alloc | apply Kd.R_drewN | apply Kd.R_drew)); exact HO_17.out))) (below_size (by repeat (first | (with_reducible first | exact HB.out | apply below_alloc | apply pw_below_drewN | apply below_drew1) | exact HB.out)))); have n3_ := Aside0.mk (below_step (by repeat (first | (with_reducible first | exact HB.out | apply below_alloc | apply pw_below_drewN | apply below_drew1) | exact HB.out)) hb); clear HO_15; clear HO_17; clear HB; have HO_15 := n0_; have HO_17 := n1_; have HO451 := n2_; have HB := n3_; clear n0_ n1_ n2_ n3_; (try clear hb); (try clear hb2); (try clear hk); (try clear hi); (try clear ho0))); go_upto_region 28 with (first | (go_at_call 28; (with_reducible refine (impl_ChildrenOf.calls k4 t439 x20_4 t448 t449 _ A56.out).mono ?_); rintro e w58 ⟨v450, rfl, ho0, hb⟩; have n0_ := Aside0.mk (Kd.R_elder' (by (with_reducible repeat (first | apply Kd.R_alloc | apply Kd.R_drewN | apply Kd.R_drew)); exact HO_15.out) (Kd.R_base ho0) hb); have n1_ := Aside0.mk (Kd.R_elder' (by (with_reducible repeat (first | apply Kd.R_alloc | apply Kd.R_drewN | apply Kd.R_drew)); exact HO_17.out) (Kd.R_base ho0) hb); have n2_ := Aside0.mk (Kd.R_lower (Kd.R_new' (Kd.R_new' ho0 (Kd.R_lt (by (with_reducible repeat (first | apply Kd.R_alloc | apply Kd.R_drewN | apply Kd.R_drew)); exact HO_15.out))) (Kd.R_lt (by (with_reducible repeat (first | apply Kd.R_alloc | apply Kd.R_drewN | apply Kd.R_drew)); exact HO_17.out))) (below_size (by repeat (first | (with_reducible first | exact HB.out | apply below_alloc | apply pw_below_drewN | apply below_drew1) | exact HB.out)))); have n3_ := Aside0.mk (below_step (by repeat (first | (with_reducible first | exact HB.out | apply below_alloc | apply pw_below_drewN | apply below_drew1) | exact HB.out)) hb); clear HO_15; clear HO_17; clear HB; have HO_15 := n0_; have HO_17 := n1_; have HO451 := n2_; have HB := n3_; clear n0_ n1_ n2_ n3_; (try clear hb); (try clear hb2); (try clear hk); (try clear hi); (try clear ho0))))
                            (try simp only [Act.put, List.setIfInBounds_toArray, List.set_cons_zero, List.set_cons_succ])
                            go_cut [185] (fun v185 wc => ∃ (kq : Nat) (x185_56 : Bool), v185 = .bool x185_56 ∧ Aside0 (laws_FnTrees.j5 kq t439 t440 t444 x19_4 x20_4 t448 x185_56 = some r) ∧ Aside0 (kq ≤ k4) ∧ Aside0 (Kd.R (Kd.int .i64) 2 wc w.heap.size (fun k_ => some k_ ≠ (v446 : Value).ownBlock ∧ some k_ ≠ (v450 : Value).ownBlock) v442 t440) ∧ Aside0 (Kd.R (Kd.int .i64) 2 wc w.heap.size (fun k_ => some k_ ≠ (v442 : Value).ownBlock ∧ some k_ ≠ (v450 : Value).ownBlock) v446 t444) ∧ Aside0 (Kd.R (Kd.int .i64) 2 wc w.heap.size (fun k_ => some k_ ≠ (v442 : Value).ownBlock ∧ some k_ ≠ (v446 : Value).ownBlock) v450 t448) ∧ Aside0 (Below w.heap.size w wc))
                            case first =>
                              have H := HC57.out
                              clear HC57
                              by_cases c59 : t449 = 0
                              · rw [if_pos c59] at H
                                have c59b0 : (t449 == 0) = true := beq_iff_eq.mpr c59
                                have c59b1 : (t449 != 0) = false := bne_eq_false_iff_eq.mpr c59
                                clear c59
                                (first | rw [c59b0] | rw [c59b1] | (simp only [i64_w, i32_w]; rw [c59b0]) | skip)
                                by_cases c60 : x20_4 ≥ 0
                                · rw [if_pos c60] at H
                                  have c60b0 : decide (0 ≤ x20_4) = true := decide_eq_true c60
                                  clear c60
                                  by_cases c61 : 0 ≤ x20_4
                                  · rw [if_pos c61] at H
                                    have c61b0 : decide (0 ≤ x20_4) = true := decide_eq_true c61
                                    clear c61
                                    replace H := Option.bind_eq_some_iff.mp H
                                    obtain ⟨t452, A630, H⟩ := H
                                    replace H : (if t452 = true then (laws_FnTrees.j5 k4 t439 t440 t444 x19_4 x20_4 t448 false) else (laws_FnTrees.j5 k4 t439 t440 t444 x19_4 x20_4 t448 (decide ((t448.length : Int) > 0)))) = some r := H
                                    have A63 := Aside0.mk A630
                                    clear A630
                                    by_cases c64 : t452 = true
                                    · subst c64
                                      have H1 : (laws_FnTrees.j5 k4 t439 t440 t444 x19_4 x20_4 t448 false) = some r := by rw [if_pos rfl] at H; exact H
                                      clear H
                                      have H := H1
                                      clear H1
                                      have H' := Aside0.mk H
                                      clear H
                                      have p62 : 0 ≤ (x20_4 : Int) := of_decide_eq_true (by first | (with_reducible assumption) | assumption)
                                      have q62 : x20_4 < (t439.size : Int) := of_decide_eq_true (by first | (with_reducible assumption) | assumption)
                                      have hx62 := bt_at t439 x20_4
                                      replace p62 := eq_true p62
                                      replace q62 := eq_true q62
                                      go_wp2_with (first | (go_at_call 23; (with_reducible refine (laws_a2Call.calls (bt t439 x20_4) true _ A63.out).mono ?_); rintro e w' ⟨rfl, ⟨nd, rfl⟩⟩; (try first | exact ⟨rfl, _, World.drewN_drewN _ _ _⟩ | exact ⟨rfl, _, Eq.trans (World.drewN_drewN _ _ _) (congrArg (World.drewN _) (Nat.add_assoc _ _ _))⟩)))
                                      repeat (go_quiet (first | (go_at_call 23; (with_reducible refine (laws_a2Call.calls (bt t439 x20_4) true _ A63.out).mono ?_); rintro e w' ⟨rfl, ⟨nd, rfl⟩⟩; (try first | exact ⟨rfl, _, World.drewN_drewN _ _ _⟩ | exact ⟨rfl, _, Eq.trans (World.drewN_drewN _ _ _) (congrArg (World.drewN _) (Nat.add_assoc _ _ _))⟩))); try go_wp2_with (first | (go_at_call 23; (with_reducible refine (laws_a2Call.calls (bt t439 x20_4) true _ A63.out).mono ?_); rintro e w' ⟨rfl, ⟨nd, rfl⟩⟩; (try first | exact ⟨rfl, _, World.drewN_drewN _ _ _⟩ | exact ⟨rfl, _, Eq.trans (World.drewN_drewN _ _ _) (congrArg (World.drewN _) (Nat.add_assoc _ _ _))⟩))))
                                      go_meet
                                      case rel => exact ⟨_, (false), (by first | rfl | (simp; done) | (simp [*]; done)), H', ⟨by have := HK1.out; have := HJ39.out; have := HJ46.out; have := HK4.out; first | omega | exact Nat.le_refl _⟩, ⟨by (with_reducible repeat (first | apply Kd.R_alloc | apply Kd.R_drewN | apply Kd.R_drew)); exact HO_15.out⟩, ⟨by (with_reducible repeat (first | apply Kd.R_alloc | apply Kd.R_drewN | apply Kd.R_drew)); exact HO_17.out⟩, ⟨by (with_reducible repeat (first | apply Kd.R_alloc | apply Kd.R_drewN | apply Kd.R_drew)); exact Kd.R_mono HO451.out (fun _ hk => ⟨hk.1.2, hk.2⟩)⟩, ⟨by repeat (first | (with_reducible first | exact HB.out | apply below_alloc | apply pw_below_drewN | apply below_drew1) | exact HB.out)⟩⟩
                                    · replace c64 := Bool.eq_false_iff.mpr c64
                                      subst c64
                                      have H1 : (laws_FnTrees.j5 k4 t439 t440 t444 x19_4 x20_4 t448 (decide ((t448.length : Int) > 0))) = some r := by rw [if_neg (show ¬ (false = true) by decide)] at H; exact H
                                      clear H
                                      have H := H1
                                      clear H1
                                      have H' := Aside0.mk H
                                      clear H
                                      have p62 : 0 ≤ (x20_4 : Int) := of_decide_eq_true (by first | (with_reducible assumption) | assumption)
                                      have q62 : x20_4 < (t439.size : Int) := of_decide_eq_true (by first | (with_reducible assumption) | assumption)
                                      have hx62 := bt_at t439 x20_4
                                      replace p62 := eq_true p62
                                      replace q62 := eq_true q62
                                      go_wp2_with (first | (go_at_call 23; (with_reducible refine (laws_a2Call.calls (bt t439 x20_4) false _ A63.out).mono ?_); rintro e w' ⟨rfl, ⟨nd, rfl⟩⟩; (try first | exact ⟨rfl, _, World.drewN_drewN _ _ _⟩ | exact ⟨rfl, _, Eq.trans (World.drewN_drewN _ _ _) (congrArg (World.drewN _) (Nat.add_assoc _ _ _))⟩); obtain ⟨Ao65, co65, eo65⟩ := Kd.R_slice HO451.out; subst eo65))
                                      repeat (go_quiet (first | (go_at_call 23; (with_reducible refine (laws_a2Call.calls (bt t439 x20_4) false _ A63.out).mono ?_); rintro e w' ⟨rfl, ⟨nd, rfl⟩⟩; (try first | exact ⟨rfl, _, World.drewN_drewN _ _ _⟩ | exact ⟨rfl, _, Eq.trans (World.drewN_drewN _ _ _) (congrArg (World.drewN _) (Nat.add_assoc _ _ _))⟩); obtain ⟨Ao65, co65, eo65⟩ := Kd.R_slice HO451.out; subst eo65)); try go_wp2_with (first | (go_at_call 23; (with_reducible refine (laws_a2Call.calls (bt t439 x20_4) false _ A63.out).mono ?_); rintro e w' ⟨rfl, ⟨nd, rfl⟩⟩; (try first | exact ⟨rfl, _, World.drewN_drewN _ _ _⟩ | exact ⟨rfl, _, Eq.trans (World.drewN_drewN _ _ _) (congrArg (World.drewN _) (Nat.add_assoc _ _ _))⟩); obtain ⟨Ao65, co65, eo65⟩ := Kd.R_slice HO451.out; subst eo65)))
                                      go_meet
                                      case rel => exact ⟨_, (decide ((t448.length : Int) > 0)), (by first | rfl | (simp; done) | (simp [*]; done)), H', ⟨by have := HK1.out; have := HJ39.out; have := HJ46.out; have := HK4.out; first | omega | exact Nat.le_refl _⟩, ⟨by (with_reducible repeat (first | apply Kd.R_alloc | apply Kd.R_drewN | apply Kd.R_drew)); exact HO_15.out⟩, ⟨by (with_reducible repeat (first | apply Kd.R_alloc | apply Kd.R_drewN | apply Kd.R_drew)); exact HO_17.out⟩, ⟨by (with_reducible repeat (first | apply Kd.R_alloc | apply Kd.R_drewN | apply Kd.R_drew)); exact Kd.R_mono HO451.out (fun _ hk => ⟨hk.1.2, hk.2⟩)⟩, ⟨by repeat (first | (with_reducible first | exact HB.out | apply below_alloc | apply pw_below_drewN | apply below_drew1) | exact HB.out)⟩⟩
                                  · rw [if_neg c61] at H
                                    exact absurd H (by simp)
                                · rw [if_neg c60] at H
                                  have c60b0 : decide (0 ≤ x20_4) = false := decide_eq_false c60
                                  clear c60
                                  have H' := Aside0.mk H
                                  clear H
                                  go_wp2
                                  repeat (go_quiet (fail); try go_wp2)
                                  go_meet
                                  case rel => exact ⟨_, (false), (by first | rfl | (simp; done) | (simp [*]; done)), H', ⟨by have := HK1.out; have := HJ39.out; have := HJ46.out; have := HK4.out; first | omega | exact Nat.le_refl _⟩, ⟨by (with_reducible repeat (first | apply Kd.R_alloc | apply Kd.R_drewN | apply Kd.R_drew)); exact HO_15.out⟩, ⟨by (with_reducible repeat (first | apply Kd.R_alloc | apply Kd.R_drewN | apply Kd.R_drew)); exact HO_17.out⟩, ⟨by (with_reducible repeat (first | apply Kd.R_alloc | apply Kd.R_drewN | apply Kd.R_drew)); exact Kd.R_mono HO451.out (fun _ hk => ⟨hk.1.2, hk.2⟩)⟩, ⟨by repeat (first | (with_reducible first | exact HB.out | apply below_alloc | apply pw_below_drewN | apply below_drew1) | exact HB.out)⟩⟩
                              · rw [if_neg c59] at H
                                have c59b0 : (t449 == 0) = false := beq_eq_false_iff_ne.mpr c59
                                have c59b1 : (t449 != 0) = true := bne_iff_ne.mpr c59
                                (first | rw [c59b0] | rw [c59b1] | (simp only [i64_w, i32_w]; rw [c59b0]) | skip)
                                have H' := Aside0.mk H
                                clear H
                                go_wp2
                                repeat (go_quiet (fail); try go_wp2)
                                go_meet
                                case rel => exact ⟨_, (true), (by first | rfl | (simp; done) | (simp [*]; done)), H', ⟨by have := HK1.out; have := HJ39.out; have := HJ46.out; have := HK4.out; first | omega | exact Nat.le_refl _⟩, ⟨by (with_reducible repeat (first | apply Kd.R_alloc | apply Kd.R_drewN | apply Kd.R_drew)); exact HO_15.out⟩, ⟨by (with_reducible repeat (first | apply Kd.R_alloc | apply Kd.R_drewN | apply Kd.R_drew)); exact HO_17.out⟩, ⟨by (with_reducible repeat (first | apply Kd.R_alloc | apply Kd.R_drewN | apply Kd.R_drew)); exact Kd.R_mono HO451.out (fun _ hk => ⟨hk.1.2, hk.2⟩)⟩, ⟨by repeat (first | (with_reducible first | exact HB.out | apply below_alloc | apply pw_below_drewN | apply below_drew1) | exact HB.out)⟩⟩
                            case rest =>
                              clear HC57
                              try clear c1
                              try clear p1
                              try clear q1
                              try clear hx1
                              try clear qi1
                              try clear c2
                              try clear p2
                              try clear c3
                              try clear c4
                              try clear p4
                              try clear q4
                              try clear hx4
                              try clear qi4
                              try clear c5
                              try clear c6
                              try clear p6
                              try clear q6
                              try clear hx6
                              try clear c9
                              try clear c9b0
                              try clear c10
                              try clear c10b0
                              try clear c15
                              try clear c15b0
                              try clear c15b1
                              try clear c16
                              try clear c17
                              try clear c17b0
                              try clear c17b1
                              try clear c18
                              try clear c18b0
                              try clear c18b1
                              try clear p19
                              try clear q19
                              try clear hx19
                              try clear qi19
                              try clear c21
                              try clear c22
                              try clear c22b0
                              try clear c23
                              try clear c23b0
                              try clear c25
                              try clear c25b0
                              try clear c25b1
                              try clear c26
                              try clear c26b0
                              try clear c26b1
                              try clear c27
                              try clear c27b0
                              try clear c27b1
                              try clear c27b2
                              try clear c28
                              try clear c28b0
                              try clear c28b1
                              try clear c29
                              try clear c29b0
                              try clear c29b1
                              try clear c30
                              try clear c30b0
                              try clear c30b1
                              try clear c30b2
                              try clear c37
                              try clear c37b0
                              try clear c37b1
                              try clear c37b2
                              try clear c42
                              try clear c42b0
                              try clear c42b1
                              try clear p42
                              try clear q42
                              try clear hx42
                              try clear c43
                              try clear p43
                              try clear q43
                              try clear hx43
                              try clear qi43
                              try clear c51
                              try clear c51b0
                              try clear c51b1
                              try clear c52
                              try clear c52b0
                              try clear c52b1
                              try clear c54
                              try clear c55
                              try clear c55b0
                              try clear c59
                              try clear c59b0
                              try clear c59b1
                              try clear c60
                              try clear c60b0
                              try clear c61
                              try clear c61b0
                              try clear p62
                              try clear q62
                              try clear hx62
                              try clear c64
                              try clear hx421_0
                              try clear hx424_0
                              try clear hx425_0
                              try clear hx426_0
                              try clear hx428_0
                              try clear hx433_0
                              try clear hx434_0
                              try clear hx435_0
                              try clear hx436_0
                              try clear hx437_0
                              try clear hx438_0
                              try clear p1
                              try clear p19
                              try clear p2
                              try clear p4
                              try clear p42
                              try clear p421
                              try clear p424
                              try clear p425
                              try clear p426
                              try clear p428
                              try clear p43
                              try clear p433
                              try clear p434
                              try clear p435
                              try clear p436
                              try clear p437
                              try clear p438
                              try clear p6
                              try clear p62
                              try clear q1
                              try clear q19
                              try clear q4
                              try clear q42
                              try clear q421
                              try clear q424
                              try clear q425
                              try clear q426
                              try clear q428
                              try clear q43
                              try clear q433
                              try clear q434
                              try clear q435
                              try clear q436
                              try clear q437
                              try clear q438
                              try clear q62
                              obtain ⟨kq, x185_56, rfl, HA, HJ56, HO_15, HO_17, HO_21, HB⟩ := hcut
                              cases kq with
                              | zero => exact absurd HA.out (by simp [laws_FnTrees.j5])
                              | succ kj56 =>
                                have H := HA.out
                                clear HA
                                simp only [laws_FnTrees.j5] at H
                                by_cases c66 : x185_56 = true
                                · subst c66
                                  have H1 : (some false) = some r := by rw [if_pos rfl] at H; exact H
                                  clear H
                                  have H := H1
                                  clear H1
                                  obtain rfl := Option.some.inj H
                                  go_wp2
                                  repeat (go_quiet (fail); try go_wp2)
                                  go_ret
                                  exact ⟨by first | rfl | (simp [errW_none, errW_some] <;> rfl) | (simp [*, errW_none, errW_some] <;> rfl), by repeat (first | (with_reducible first | exact HB.out | apply below_alloc | apply pw_below_drewN | apply below_drew1) | exact HB.out)⟩
                                · as_aux_lemma =>
                                  replace c66 := Bool.eq_false_iff.mpr c66
                                  subst c66
                                  have H1 : (laws_FnTrees.l2 kj56 t439 t440 t444 x19_4 x20_4 t448 0) = some r := by rw [if_neg (show ¬ (false = true) by decide)] at H; exact H
                                  clear H
                                  have H := H1
                                  clear H1
                                  have H' := Aside0.mk H
                                  clear H
                                  go_wp2
                                  repeat (go_quiet (fail); try go_wp2)
                                  go_loopg [23] kj56 (fun kq v23 w' => ∃ (x23_6 : Int), v23 = .int .i64 x23_6 ∧ Aside0 (laws_FnTrees.l2 kq t439 t440 t444 x19_4 x20_4 t448 x23_6 = some r) ∧ Aside0 (kq ≤ kj56) ∧ Aside0 (Kd.R (Kd.int .i64) 2 w' w.heap.size (fun k_ => some k_ ≠ (v446 : Value).ownBlock ∧ some k_ ≠ (v450 : Value).ownBlock) v442 t440) ∧ Aside0 (Kd.R (Kd.int .i64) 2 w' w.heap.size (fun k_ => some k_ ≠ (v442 : Value).ownBlock ∧ some k_ ≠ (v450 : Value).ownBlock) v446 t444) ∧ Aside0 (Kd.R (Kd.int .i64) 2 w' w.heap.size (fun k_ => some k_ ≠ (v442 : Value).ownBlock ∧ some k_ ≠ (v446 : Value).ownBlock) v450 t448) ∧ Aside0 (Below w.heap.size w w'))
                                  case atStart => exact ⟨(0), (by first | rfl | (simp; done) | (simp [*]; done)), H', ⟨Nat.le_refl _⟩, ⟨by (with_reducible repeat (first | apply Kd.R_alloc | apply Kd.R_drewN | apply Kd.R_drew)); exact HO_15.out⟩, ⟨by (with_reducible repeat (first | apply Kd.R_alloc | apply Kd.R_drewN | apply Kd.R_drew)); exact HO_17.out⟩, ⟨by (with_reducible repeat (first | apply Kd.R_alloc | apply Kd.R_drewN | apply Kd.R_drew)); exact HO_21.out⟩, ⟨by repeat (first | (with_reducible first | exact HB.out | apply below_alloc | apply pw_below_drewN | apply below_drew1) | exact HB.out)⟩⟩
                                  case round =>
                                    clear H'
                                    try clear c1
                                    try clear p1
                                    try clear q1
                                    try clear hx1
                                    try clear qi1
                                    try clear c2
                                    try clear p2
                                    try clear c3
                                    try clear c4
                                    try clear p4
                                    try clear q4
                                    try clear hx4
                                    try clear qi4
                                    try clear c5
                                    try clear c6
                                    try clear p6
                                    try clear q6
                                    try clear hx6
                                    try clear c9
                                    try clear c9b0
                                    try clear c10
                                    try clear c10b0
                                    try clear c15
                                    try clear c15b0
                                    try clear c15b1
                                    try clear c16
                                    try clear c17
                                    try clear c17b0
                                    try clear c17b1
                                    try clear c18
                                    try clear c18b0
                                    try clear c18b1
                                    try clear p19
                                    try clear q19
                                    try clear hx19
                                    try clear qi19
                                    try clear c21
                                    try clear c22
                                    try clear c22b0
                                    try clear c23
                                    try clear c23b0
                                    try clear c25
                                    try clear c25b0
                                    try clear c25b1
                                    try clear c26
                                    try clear c26b0
                                    try clear c26b1
                                    try clear c27
                                    try clear c27b0
                                    try clear c27b1
                                    try clear c27b2
                                    try clear c28
                                    try clear c28b0
                                    try clear c28b1
                                    try clear c29
                                    try clear c29b0
                                    try clear c29b1
                                    try clear c30
                                    try clear c30b0
                                    try clear c30b1
                                    try clear c30b2
                                    try clear c37
                                    try clear c37b0
                                    try clear c37b1
                                    try clear c37b2
                                    try clear c42
                                    try clear c42b0
                                    try clear c42b1
                                    try clear p42
                                    try clear q42
                                    try clear hx42
                                    try clear c43
                                    try clear p43
                                    try clear q43
                                    try clear hx43
                                    try clear qi43
                                    try clear c51
                                    try clear c51b0
                                    try clear c51b1
                                    try clear c52
                                    try clear c52b0
                                    try clear c52b1
                                    try clear c54
                                    try clear c55
                                    try clear c55b0
                                    try clear c59
                                    try clear c59b0
                                    try clear c59b1
                                    try clear c60
                                    try clear c60b0
                                    try clear c61
                                    try clear c61b0
                                    try clear p62
                                    try clear q62
                                    try clear hx62
                                    try clear c64
                                    try clear c66
                                    try clear hx421_0
                                    try clear hx424_0
                                    try clear hx425_0
                                    try clear hx426_0
                                    try clear hx428_0
                                    try clear hx433_0
                                    try clear hx434_0
                                    try clear hx435_0
                                    try clear hx436_0
                                    try clear hx437_0
                                    try clear hx438_0
                                    try clear p1
                                    try clear p19
                                    try clear p2
                                    try clear p4
                                    try clear p42
                                    try clear p421
                                    try clear p424
                                    try clear p425
                                    try clear p426
                                    try clear p428
                                    try clear p43
                                    try clear p433
                                    try clear p434
                                    try clear p435
                                    try clear p436
                                    try clear p437
                                    try clear p438
                                    try clear p6
                                    try clear p62
                                    try clear q1
                                    try clear q19
                                    try clear q4
                                    try clear q42
                                    try clear q421
                                    try clear q424
                                    try clear q425
                                    try clear q426
                                    try clear q428
                                    try clear q43
                                    try clear q433
                                    try clear q434
                                    try clear q435
                                    try clear q436
                                    try clear q437
                                    try clear q438
                                    try clear q6
                                    try clear q62
                                    obtain ⟨x23_6, rfl, HA, HK6, HO_15, HO_17, HO_21, HB⟩ := hrel
                                    cases gk with
                                    | zero => exact absurd HA.out (by simp [laws_FnTrees.l2])
                                    | succ k6 =>
                                      have H := HA.out
                                      clear HA
                                      simp only [laws_FnTrees.l2] at H
                                      by_cases c67 : x23_6 < (t448.length : Int)
                                      · as_aux_lemma =>
                                        rw [if_pos c67] at H
                                        have c67b0 : decide (x23_6 < (t448.length : Int)) = true := decide_eq_true c67
                                        clear c67
                                        by_cases c68 : 0 ≤ x23_6
                                        · as_aux_lemma =>
                                          rw [if_pos c68] at H
                                          have c68b0 : decide (0 ≤ x23_6) = true := decide_eq_true c68
                                          clear c68
                                          by_cases c69 : (rd t448 x23_6) < 0
                                          · rw [if_pos c69] at H
                                            have c69b0 : decide ((rd t448 x23_6) < 0) = true := decide_eq_true c69
                                            clear c69
                                            obtain rfl := Option.some.inj H
                                            obtain ⟨Ao70, co70, eo70⟩ := Kd.R_slice HO_21.out
                                            subst eo70
                                            have p453 : 0 ≤ (x23_6 : Int) := of_decide_eq_true (by first | (with_reducible assumption) | assumption)
                                            have q453 : x23_6 < (t448.length : Int) := of_decide_eq_true (by first | (with_reducible assumption) | assumption)
                                            obtain ⟨ad453, e453, hx453_0⟩ := Kd.at_int (Kd.R_reads' HO_21.out).2.2 x23_6 p453 q453
                                            cases e453
                                            replace p453 := eq_true p453
                                            replace q453 := eq_true q453
                                            go_wp2
                                            repeat (go_quiet (fail); try go_wp2)
                                            go_ret
                                            exact ⟨by first | rfl | (simp [errW_none, errW_some] <;> rfl) | (simp [*, errW_none, errW_some] <;> rfl), by repeat (first | (with_reducible first | exact HB.out | apply below_alloc | apply pw_below_drewN | apply below_drew1) | exact HB.out)⟩
                                          · as_aux_lemma =>
                                            rw [if_neg c69] at H
                                            have c69b0 : decide ((rd t448 x23_6) < 0) = false := decide_eq_false c69
                                            clear c69
                                            by_cases c71 : (rd t448 x23_6) ≥ (t439.size : Int)
                                            · rw [if_pos c71] at H
                                              have c71b0 : decide ((t439.size : Int) ≤ (rd t448 x23_6)) = true := decide_eq_true c71
                                              clear c71
                                              obtain rfl := Option.some.inj H
                                              obtain ⟨Ao72, co72, eo72⟩ := Kd.R_slice HO_21.out
                                              subst eo72
                                              have p453 : 0 ≤ (x23_6 : Int) := of_decide_eq_true (by first | (with_reducible assumption) | assumption)
                                              have q453 : x23_6 < (t448.length : Int) := of_decide_eq_true (by first | (with_reducible assumption) | assumption)
                                              obtain ⟨ad453, e453, hx453_0⟩ := Kd.at_int (Kd.R_reads' HO_21.out).2.2 x23_6 p453 q453
                                              cases e453
                                              replace p453 := eq_true p453
                                              replace q453 := eq_true q453
                                              go_wp2
                                              repeat (go_quiet (fail); try go_wp2)
                                              go_ret
                                              exact ⟨by first | rfl | (simp [errW_none, errW_some] <;> rfl) | (simp [*, errW_none, errW_some] <;> rfl), by repeat (first | (with_reducible first | exact HB.out | apply below_alloc | apply pw_below_drewN | apply below_drew1) | exact HB.out)⟩
                                            · as_aux_lemma =>
                                              rw [if_neg c71] at H
                                              have c71b0 : decide ((t439.size : Int) ≤ (rd t448 x23_6)) = false := decide_eq_false c71
                                              clear c71
                                              by_cases c73 : 0 ≤ (rd t448 x23_6)
                                              · as_aux_lemma =>
                                                rw [if_pos c73] at H
                                                have c73b0 : decide (0 ≤ (rd t448 x23_6)) = true := decide_eq_true c73
                                                clear c73
                                                by_cases c74 : (rd t448 x23_6) < (t440.length : Int)
                                                · as_aux_lemma =>
                                                  rw [if_pos c74] at H
                                                  have c74b0 : decide ((rd t448 x23_6) < (t440.length : Int)) = true := decide_eq_true c74
                                                  clear c74
                                                  by_cases c75 : (rd t440 (rd t448 x23_6)) = x20_4
                                                  · as_aux_lemma =>
                                                    rw [if_pos c75] at H
                                                    have c75b0 : ((rd t440 (rd t448 x23_6)) == x20_4) = true := beq_iff_eq.mpr c75
                                                    have c75b1 : ((rd t440 (rd t448 x23_6)) != x20_4) = false := bne_eq_false_iff_eq.mpr c75
                                                    clear c75
                                                    by_cases c76 : x23_6 > 0
                                                    · as_aux_lemma =>
                                                      rw [if_pos c76] at H
                                                      have c76b0 : decide (0 < x23_6) = true := decide_eq_true c76
                                                      clear c76
                                                      obtain ⟨ji77, hji77⟩ : ∃ j_ : Int, (wrap64 (x23_6 - 1)) = j_ := ⟨_, rfl⟩
                                                      replace H : (if 0 ≤ (ji77) then (if (ji77) < (t448.length : Int) then (if (rd t448 (ji77)) ≥ (rd t448 x23_6) then (some false) else (if (rd t448 x23_6) ≤ x20_4 then (some false) else (if x20_4 ≥ 0 then (if 0 ≤ x20_4 then (if x20_4 < (t444.length : Int) then (if (rd t444 x20_4) ≥ 0 then (if (rd t448 x23_6) ≥ (rd t444 x20_4) then (some false) else (laws_FnTrees.l2 k6 t439 t440 t444 x19_4 x20_4 t448 (wrap64 (x23_6 + 1)))) else (laws_FnTrees.l2 k6 t439 t440 t444 x19_4 x20_4 t448 (wrap64 (x23_6 + 1)))) else (none)) else (none)) else (laws_FnTrees.l2 k6 t439 t440 t444 x19_4 x20_4 t448 (wrap64 (x23_6 + 1)))))) else (none)) else (none)) = some r := by first | (rw [hji77] at H; exact H) | (simp only [hji77] at H ⊢; exact H)
                                                      have hji77w : (IntKind.i64.wrap (x23_6 - 1)) = ji77 := (i64_w _).trans hji77
                                                      by_cases c78 : 0 ≤ (ji77)
                                                      · as_aux_lemma =>
                                                        rw [if_pos c78] at H
                                                        have c78b0 : decide (0 ≤ (ji77)) = true := decide_eq_true c78
                                                        clear c78
                                                        by_cases c79 : (ji77) < (t448.length : Int)
                                                        · as_aux_lemma =>
                                                          rw [if_pos c79] at H
                                                          have c79b0 : decide ((ji77) < (t448.length : Int)) = true := decide_eq_true c79
                                                          clear c79
                                                          by_cases c80 : (rd t448 (ji77)) ≥ (rd t448 x23_6)
                                                          · rw [if_pos c80] at H
                                                            have c80b0 : decide ((rd t448 x23_6) ≤ (rd t448 (ji77))) = true := decide_eq_true c80
                                                            clear c80
                                                            obtain rfl := Option.some.inj H
                                                            obtain ⟨Ao81, co81, eo81⟩ := Kd.R_slice HO_21.out
                                                            subst eo81
                                                            have p453 : 0 ≤ (x23_6 : Int) := of_decide_eq_true (by first | (with_reducible assumption) | assumption)
                                                            have q453 : x23_6 < (t448.length : Int) := of_decide_eq_true (by first | (with_reducible assumption) | assumption)
                                                            obtain ⟨ad453, e453, hx453_0⟩ := Kd.at_int (Kd.R_reads' HO_21.out).2.2 x23_6 p453 q453
                                                            cases e453
                                                            replace p453 := eq_true p453
                                                            replace q453 := eq_true q453
                                                            obtain ⟨Ao82, co82, eo82⟩ := Kd.R_slice HO_15.out
                                                            subst eo82
                                                            have p454 : 0 ≤ ((rd t448 x23_6) : Int) := of_decide_eq_true (by first | (with_reducible assumption) | assumption)
                                                            have q454 : (rd t448 x23_6) < (t440.length : Int) := of_decide_eq_true (by first | (with_reducible assumption) | assumption)
                                                            obtain ⟨ad454, e454, hx454_0⟩ := Kd.at_int (Kd.R_reads' HO_15.out).2.2 (rd t448 x23_6) p454 q454
                                                            cases e454
                                                            replace p454 := eq_true p454
                                                            replace q454 := eq_true q454
                                                            have p455 : 0 ≤ ((ji77) : Int) := of_decide_eq_true (by first | (with_reducible assumption) | assumption)
                                                            have q455 : (ji77) < (t448.length : Int) := of_decide_eq_true (by first | (with_reducible assumption) | assumption)
                                                            obtain ⟨ad455, e455, hx455_0⟩ := Kd.at_int (Kd.R_reads' HO_21.out).2.2 (ji77) p455 q455
                                                            obtain rfl : ad453 = ad455 := (by injection e455)
                                                            replace p455 := eq_true p455
                                                            replace q455 := eq_true q455
                                                            go_wp2
                                                            repeat (go_quiet (fail); try go_wp2)
                                                            go_ret
                                                            exact ⟨by first | rfl | (simp [errW_none, errW_some] <;> rfl) | (simp only [← hji77]; first | rfl | (simp [errW_none, errW_some] <;> rfl)) | (simp [*, errW_none, errW_some] <;> rfl), by repeat (first | (with_reducible first | exact HB.out | apply below_alloc | apply pw_below_drewN | apply below_drew1) | exact HB.out)⟩
                                                          · as_aux_lemma =>
                                                            rw [if_neg c80] at H
                                                            have c80b0 : decide ((rd t448 x23_6) ≤ (rd t448 (ji77))) = false := decide_eq_false c80
                                                            clear c80
                                                            by_cases c83 : (rd t448 x23_6) ≤ x20_4
                                                            · rw [if_pos c83] at H
                                                              have c83b0 : decide ((rd t448 x23_6) ≤ x20_4) = true := decide_eq_true c83
                                                              clear c83
                                                              obtain rfl := Option.some.inj H
                                                              obtain ⟨Ao84, co84, eo84⟩ := Kd.R_slice HO_21.out
                                                              subst eo84
                                                              have p453 : 0 ≤ (x23_6 : Int) := of_decide_eq_true (by first | (with_reducible assumption) | assumption)
                                                              have q453 : x23_6 < (t448.length : Int) := of_decide_eq_true (by first | (with_reducible assumption) | assumption)
                                                              obtain ⟨ad453, e453, hx453_0⟩ := Kd.at_int (Kd.R_reads' HO_21.out).2.2 x23_6 p453 q453
                                                              cases e453
                                                              replace p453 := eq_true p453
                                                              replace q453 := eq_true q453
                                                              obtain ⟨Ao85, co85, eo85⟩ := Kd.R_slice HO_15.out
                                                              subst eo85
                                                              have p454 : 0 ≤ ((rd t448 x23_6) : Int) := of_decide_eq_true (by first | (with_reducible assumption) | assumption)
                                                              have q454 : (rd t448 x23_6) < (t440.length : Int) := of_decide_eq_true (by first | (with_reducible assumption) | assumption)
                                                              obtain ⟨ad454, e454, hx454_0⟩ := Kd.at_int (Kd.R_reads' HO_15.out).2.2 (rd t448 x23_6) p454 q454
                                                              cases e454
                                                              replace p454 := eq_true p454
                                                              replace q454 := eq_true q454
                                                              have p455 : 0 ≤ ((ji77) : Int) := of_decide_eq_true (by first | (with_reducible assumption) | assumption)
                                                              have q455 : (ji77) < (t448.length : Int) := of_decide_eq_true (by first | (with_reducible assumption) | assumption)
                                                              obtain ⟨ad455, e455, hx455_0⟩ := Kd.at_int (Kd.R_reads' HO_21.out).2.2 (ji77) p455 q455
                                                              obtain rfl : ad453 = ad455 := (by injection e455)
                                                              replace p455 := eq_true p455
                                                              replace q455 := eq_true q455
                                                              go_wp2
                                                              repeat (go_quiet (fail); try go_wp2)
                                                              go_ret
                                                              exact ⟨by first | rfl | (simp [errW_none, errW_some] <;> rfl) | (simp only [← hji77]; first | rfl | (simp [errW_none, errW_some] <;> rfl)) | (simp [*, errW_none, errW_some] <;> rfl), by repeat (first | (with_reducible first | exact HB.out | apply below_alloc | apply pw_below_drewN | apply below_drew1) | exact HB.out)⟩
                                                            · as_aux_lemma =>
                                                              rw [if_neg c83] at H
                                                              have c83b0 : decide ((rd t448 x23_6) ≤ x20_4) = false := decide_eq_false c83
                                                              clear c83
                                                              by_cases c86 : x20_4 ≥ 0
                                                              · as_aux_lemma =>
                                                                rw [if_pos c86] at H
                                                                have c86b0 : decide (0 ≤ x20_4) = true := decide_eq_true c86
                                                                clear c86
                                                                by_cases c87 : 0 ≤ x20_4
                                                                · rw [if_pos c87] at H
                                                                  have c87b0 : decide (0 ≤ x20_4) = true := decide_eq_true c87
                                                                  clear c87
                                                                  by_cases c88 : x20_4 < (t444.length : Int)
                                                                  · rw [if_pos c88] at H
                                                                    have c88b0 : decide (x20_4 < (t444.length : Int)) = true := decide_eq_true c88
                                                                    clear c88
                                                                    by_cases c89 : (rd t444 x20_4) ≥ 0
                                                                    · rw [if_pos c89] at H
                                                                      have c89b0 : decide (0 ≤ (rd t444 x20_4)) = true := decide_eq_true c89
                                                                      clear c89
                                                                      by_cases c90 : (rd t448 x23_6) ≥ (rd t444 x20_4)
                                                                      · rw [if_pos c90] at H
                                                                        have c90b0 : decide ((rd t444 x20_4) ≤ (rd t448 x23_6)) = true := decide_eq_true c90
                                                                        clear c90
                                                                        obtain rfl := Option.some.inj H
                                                                        obtain ⟨Ao91, co91, eo91⟩ := Kd.R_slice HO_21.out
                                                                        subst eo91
                                                                        have p453 : 0 ≤ (x23_6 : Int) := of_decide_eq_true (by first | (with_reducible assumption) | assumption)
                                                                        have q453 : x23_6 < (t448.length : Int) := of_decide_eq_true (by first | (with_reducible assumption) | assumption)
                                                                        obtain ⟨ad453, e453, hx453_0⟩ := Kd.at_int (Kd.R_reads' HO_21.out).2.2 x23_6 p453 q453
                                                                        cases e453
                                                                        replace p453 := eq_true p453
                                                                        replace q453 := eq_true q453
                                                                        obtain ⟨Ao92, co92, eo92⟩ := Kd.R_slice HO_15.out
                                                                        subst eo92
                                                                        have p454 : 0 ≤ ((rd t448 x23_6) : Int) := of_decide_eq_true (by first | (with_reducible assumption) | assumption)
                                                                        have q454 : (rd t448 x23_6) < (t440.length : Int) := of_decide_eq_true (by first | (with_reducible assumption) | assumption)
                                                                        obtain ⟨ad454, e454, hx454_0⟩ := Kd.at_int (Kd.R_reads' HO_15.out).2.2 (rd t448 x23_6) p454 q454
                                                                        cases e454
                                                                        replace p454 := eq_true p454
                                                                        replace q454 := eq_true q454
                                                                        have p455 : 0 ≤ ((ji77) : Int) := of_decide_eq_true (by first | (with_reducible assumption) | assumption)
                                                                        have q455 : (ji77) < (t448.length : Int) := of_decide_eq_true (by first | (with_reducible assumption) | assumption)
                                                                        obtain ⟨ad455, e455, hx455_0⟩ := Kd.at_int (Kd.R_reads' HO_21.out).2.2 (ji77) p455 q455
                                                                        obtain rfl : ad453 = ad455 := (by injection e455)
                                                                        replace p455 := eq_true p455
                                                                        replace q455 := eq_true q455
                                                                        obtain ⟨Ao93, co93, eo93⟩ := Kd.R_slice HO_17.out
                                                                        subst eo93
                                                                        have p456 : 0 ≤ (x20_4 : Int) := of_decide_eq_true (by first | (with_reducible assumption) | assumption)
                                                                        have q456 : x20_4 < (t444.length : Int) := of_decide_eq_true (by first | (with_reducible assumption) | assumption)
                                                                        obtain ⟨ad456, e456, hx456_0⟩ := Kd.at_int (Kd.R_reads' HO_17.out).2.2 x20_4 p456 q456
                                                                        cases e456
                                                                        replace p456 := eq_true p456
                                                                        replace q456 := eq_true q456
                                                                        have p457 : 0 ≤ (x20_4 : Int) := of_decide_eq_true (by first | (with_reducible assumption) | assumption)
                                                                        have q457 : x20_4 < (t444.length : Int) := of_decide_eq_true (by first | (with_reducible assumption) | assumption)
                                                                        obtain ⟨ad457, e457, hx457_0⟩ := Kd.at_int (Kd.R_reads' HO_17.out).2.2 x20_4 p457 q457
                                                                        obtain rfl : ad456 = ad457 := (by injection e457)
                                                                        replace p457 := eq_true p457
                                                                        replace q457 := eq_true q457
                                                                        go_wp2
                                                                        repeat (go_quiet (fail); try go_wp2)
                                                                        go_ret
                                                                        exact ⟨by first | rfl | (simp [errW_none, errW_some] <;> rfl) | (simp only [← hji77]; first | rfl | (simp [errW_none, errW_some] <;> rfl)) | (simp [*, errW_none, errW_some] <;> rfl), by repeat (first | (with_reducible first | exact HB.out | apply below_alloc | apply pw_below_drewN | apply below_drew1) | exact HB.out)⟩
                                                                      · rw [if_neg c90] at H
                                                                        have c90b0 : decide ((rd t444 x20_4) ≤ (rd t448 x23_6)) = false := decide_eq_false c90
                                                                        clear c90
                                                                        have H' := Aside0.mk H
                                                                        clear H
                                                                        obtain ⟨Ao94, co94, eo94⟩ := Kd.R_slice HO_21.out
                                                                        subst eo94
                                                                        have p453 : 0 ≤ (x23_6 : Int) := of_decide_eq_true (by first | (with_reducible assumption) | assumption)
                                                                        have q453 : x23_6 < (t448.length : Int) := of_decide_eq_true (by first | (with_reducible assumption) | assumption)
                                                                        obtain ⟨ad453, e453, hx453_0⟩ := Kd.at_int (Kd.R_reads' HO_21.out).2.2 x23_6 p453 q453
                                                                        cases e453
                                                                        replace p453 := eq_true p453
                                                                        replace q453 := eq_true q453
                                                                        obtain ⟨Ao95, co95, eo95⟩ := Kd.R_slice HO_15.out
                                                                        subst eo95
                                                                        have p454 : 0 ≤ ((rd t448 x23_6) : Int) := of_decide_eq_true (by first | (with_reducible assumption) | assumption)
                                                                        have q454 : (rd t448 x23_6) < (t440.length : Int) := of_decide_eq_true (by first | (with_reducible assumption) | assumption)
                                                                        obtain ⟨ad454, e454, hx454_0⟩ := Kd.at_int (Kd.R_reads' HO_15.out).2.2 (rd t448 x23_6) p454 q454
                                                                        cases e454
                                                                        replace p454 := eq_true p454
                                                                        replace q454 := eq_true q454
                                                                        have p455 : 0 ≤ ((ji77) : Int) := of_decide_eq_true (by first | (with_reducible assumption) | assumption)
                                                                        have q455 : (ji77) < (t448.length : Int) := of_decide_eq_true (by first | (with_reducible assumption) | assumption)
                                                                        obtain ⟨ad455, e455, hx455_0⟩ := Kd.at_int (Kd.R_reads' HO_21.out).2.2 (ji77) p455 q455
                                                                        obtain rfl : ad453 = ad455 := (by injection e455)
                                                                        replace p455 := eq_true p455
                                                                        replace q455 := eq_true q455
                                                                        obtain ⟨Ao96, co96, eo96⟩ := Kd.R_slice HO_17.out
                                                                        subst eo96
                                                                        have p456 : 0 ≤ (x20_4 : Int) := of_decide_eq_true (by first | (with_reducible assumption) | assumption)
                                                                        have q456 : x20_4 < (t444.length : Int) := of_decide_eq_true (by first | (with_reducible assumption) | assumption)
                                                                        obtain ⟨ad456, e456, hx456_0⟩ := Kd.at_int (Kd.R_reads' HO_17.out).2.2 x20_4 p456 q456
                                                                        cases e456
                                                                        replace p456 := eq_true p456
                                                                        replace q456 := eq_true q456
                                                                        have p457 : 0 ≤ (x20_4 : Int) := of_decide_eq_true (by first | (with_reducible assumption) | assumption)
                                                                        have q457 : x20_4 < (t444.length : Int) := of_decide_eq_true (by first | (with_reducible assumption) | assumption)
                                                                        obtain ⟨ad457, e457, hx457_0⟩ := Kd.at_int (Kd.R_reads' HO_17.out).2.2 x20_4 p457 q457
                                                                        obtain rfl : ad456 = ad457 := (by injection e457)
                                                                        replace p457 := eq_true p457
                                                                        replace q457 := eq_true q457
                                                                        go_wp2
                                                                        repeat (go_quiet (fail); try go_wp2)
                                                                        go_roundg k6
                                                                        case measure => have := HK1.out; have := HJ39.out; have := HJ46.out; have := HK4.out; have := HJ56.out; have := HK6.out; omega
                                                                        case rel => exact ⟨(wrap64 (x23_6 + 1)), (by first | rfl | (simp; done) | (simp [*]; done)), H', ⟨by have := HK1.out; have := HJ39.out; have := HJ46.out; have := HK4.out; have := HJ56.out; have := HK6.out; omega⟩, ⟨by (with_reducible repeat (first | apply Kd.R_alloc | apply Kd.R_drewN | apply Kd.R_drew)); exact HO_15.out⟩, ⟨by (with_reducible repeat (first | apply Kd.R_alloc | apply Kd.R_drewN | apply Kd.R_drew)); exact HO_17.out⟩, ⟨by (with_reducible repeat (first | apply Kd.R_alloc | apply Kd.R_drewN | apply Kd.R_drew)); exact HO_21.out⟩, ⟨by repeat (first | (with_reducible first | exact HB.out | apply below_alloc | apply pw_below_drewN | apply below_drew1) | exact HB.out)⟩⟩
                                                                    · rw [if_neg c89] at H
                                                                      have c89b0 : decide (0 ≤ (rd t444 x20_4)) = false := decide_eq_false c89
                                                                      clear c89
                                                                      have H' := Aside0.mk H
                                                                      clear H
                                                                      obtain ⟨Ao97, co97, eo97⟩ := Kd.R_slice HO_21.out
                                                                      subst eo97
                                                                      have p453 : 0 ≤ (x23_6 : Int) := of_decide_eq_true (by first | (with_reducible assumption) | assumption)
                                                                      have q453 : x23_6 < (t448.length : Int) := of_decide_eq_true (by first | (with_reducible assumption) | assumption)
                                                                      obtain ⟨ad453, e453, hx453_0⟩ := Kd.at_int (Kd.R_reads' HO_21.out).2.2 x23_6 p453 q453
                                                                      cases e453
                                                                      replace p453 := eq_true p453
                                                                      replace q453 := eq_true q453
                                                                      obtain ⟨Ao98, co98, eo98⟩ := Kd.R_slice HO_15.out
                                                                      subst eo98
                                                                      have p454 : 0 ≤ ((rd t448 x23_6) : Int) := of_decide_eq_true (by first | (with_reducible assumption) | assumption)
                                                                      have q454 : (rd t448 x23_6) < (t440.length : Int) := of_decide_eq_true (by first | (with_reducible assumption) | assumption)
                                                                      obtain ⟨ad454, e454, hx454_0⟩ := Kd.at_int (Kd.R_reads' HO_15.out).2.2 (rd t448 x23_6) p454 q454
                                                                      cases e454
                                                                      replace p454 := eq_true p454
                                                                      replace q454 := eq_true q454
                                                                      have p455 : 0 ≤ ((ji77) : Int) := of_decide_eq_true (by first | (with_reducible assumption) | assumption)
                                                                      have q455 : (ji77) < (t448.length : Int) := of_decide_eq_true (by first | (with_reducible assumption) | assumption)
                                                                      obtain ⟨ad455, e455, hx455_0⟩ := Kd.at_int (Kd.R_reads' HO_21.out).2.2 (ji77) p455 q455
                                                                      obtain rfl : ad453 = ad455 := (by injection e455)
                                                                      replace p455 := eq_true p455
                                                                      replace q455 := eq_true q455
                                                                      obtain ⟨Ao99, co99, eo99⟩ := Kd.R_slice HO_17.out
                                                                      subst eo99
                                                                      have p456 : 0 ≤ (x20_4 : Int) := of_decide_eq_true (by first | (with_reducible assumption) | assumption)
                                                                      have q456 : x20_4 < (t444.length : Int) := of_decide_eq_true (by first | (with_reducible assumption) | assumption)
                                                                      obtain ⟨ad456, e456, hx456_0⟩ := Kd.at_int (Kd.R_reads' HO_17.out).2.2 x20_4 p456 q456
                                                                      cases e456
                                                                      replace p456 := eq_true p456
                                                                      replace q456 := eq_true q456
                                                                      go_wp2
                                                                      repeat (go_quiet (fail); try go_wp2)
                                                                      go_roundg k6
                                                                      case measure => have := HK1.out; have := HJ39.out; have := HJ46.out; have := HK4.out; have := HJ56.out; have := HK6.out; omega
                                                                      case rel => exact ⟨(wrap64 (x23_6 + 1)), (by first | rfl | (simp; done) | (simp [*]; done)), H', ⟨by have := HK1.out; have := HJ39.out; have := HJ46.out; have := HK4.out; have := HJ56.out; have := HK6.out; omega⟩, ⟨by (with_reducible repeat (first | apply Kd.R_alloc | apply Kd.R_drewN | apply Kd.R_drew)); exact HO_15.out⟩, ⟨by (with_reducible repeat (first | apply Kd.R_alloc | apply Kd.R_drewN | apply Kd.R_drew)); exact HO_17.out⟩, ⟨by (with_reducible repeat (first | apply Kd.R_alloc | apply Kd.R_drewN | apply Kd.R_drew)); exact HO_21.out⟩, ⟨by repeat (first | (with_reducible first | exact HB.out | apply below_alloc | apply pw_below_drewN | apply below_drew1) | exact HB.out)⟩⟩
                                                                  · rw [if_neg c88] at H
                                                                    exact absurd H (by simp)
                                                                · rw [if_neg c87] at H
                                                                  exact absurd H (by simp)
                                                              · rw [if_neg c86] at H
                                                                have c86b0 : decide (0 ≤ x20_4) = false := decide_eq_false c86
                                                                clear c86
                                                                have H' := Aside0.mk H
                                                                clear H
                                                                obtain ⟨Ao100, co100, eo100⟩ := Kd.R_slice HO_21.out
                                                                subst eo100
                                                                have p453 : 0 ≤ (x23_6 : Int) := of_decide_eq_true (by first | (with_reducible assumption) | assumption)
                                                                have q453 : x23_6 < (t448.length : Int) := of_decide_eq_true (by first | (with_reducible assumption) | assumption)
                                                                obtain ⟨ad453, e453, hx453_0⟩ := Kd.at_int (Kd.R_reads' HO_21.out).2.2 x23_6 p453 q453
                                                                cases e453
                                                                replace p453 := eq_true p453
                                                                replace q453 := eq_true q453
                                                                obtain ⟨Ao101, co101, eo101⟩ := Kd.R_slice HO_15.out
                                                                subst eo101
                                                                have p454 : 0 ≤ ((rd t448 x23_6) : Int) := of_decide_eq_true (by first | (with_reducible assumption) | assumption)
                                                                have q454 : (rd t448 x23_6) < (t440.length : Int) := of_decide_eq_true (by first | (with_reducible assumption) | assumption)
                                                                obtain ⟨ad454, e454, hx454_0⟩ := Kd.at_int (Kd.R_reads' HO_15.out).2.2 (rd t448 x23_6) p454 q454
                                                                cases e454
                                                                replace p454 := eq_true p454
                                                                replace q454 := eq_true q454
                                                                have p455 : 0 ≤ ((ji77) : Int) := of_decide_eq_true (by first | (with_reducible assumption) | assumption)
                                                                have q455 : (ji77) < (t448.length : Int) := of_decide_eq_true (by first | (with_reducible assumption) | assumption)
                                                                obtain ⟨ad455, e455, hx455_0⟩ := Kd.at_int (Kd.R_reads' HO_21.out).2.2 (ji77) p455 q455
                                                                obtain rfl : ad453 = ad455 := (by injection e455)
                                                                replace p455 := eq_true p455
                                                                replace q455 := eq_true q455
                                                                go_wp2
                                                                repeat (go_quiet (fail); try go_wp2)
                                                                go_roundg k6
                                                                case measure => have := HK1.out; have := HJ39.out; have := HJ46.out; have := HK4.out; have := HJ56.out; have := HK6.out; omega
                                                                case rel => exact ⟨(wrap64 (x23_6 + 1)), (by first | rfl | (simp; done) | (simp [*]; done)), H', ⟨by have := HK1.out; have := HJ39.out; have := HJ46.out; have := HK4.out; have := HJ56.out; have := HK6.out; omega⟩, ⟨by (with_reducible repeat (first | apply Kd.R_alloc | apply Kd.R_drewN | apply Kd.R_drew)); exact HO_15.out⟩, ⟨by (with_reducible repeat (first | apply Kd.R_alloc | apply Kd.R_drewN | apply Kd.R_drew)); exact HO_17.out⟩, ⟨by (with_reducible repeat (first | apply Kd.R_alloc | apply Kd.R_drewN | apply Kd.R_drew)); exact HO_21.out⟩, ⟨by repeat (first | (with_reducible first | exact HB.out | apply below_alloc | apply pw_below_drewN | apply below_drew1) | exact HB.out)⟩⟩
                                                        · rw [if_neg c79] at H
                                                          exact absurd H (by simp)
                                                      · rw [if_neg c78] at H
                                                        exact absurd H (by simp)
                                                    · as_aux_lemma =>
                                                      rw [if_neg c76] at H
                                                      have c76b0 : decide (0 < x23_6) = false := decide_eq_false c76
                                                      clear c76
                                                      by_cases c102 : (rd t448 x23_6) ≤ x20_4
                                                      · rw [if_pos c102] at H
                                                        have c102b0 : decide ((rd t448 x23_6) ≤ x20_4) = true := decide_eq_true c102
                                                        clear c102
                                                        obtain rfl := Option.some.inj H
                                                        obtain ⟨Ao103, co103, eo103⟩ := Kd.R_slice HO_21.out
                                                        subst eo103
                                                        have p453 : 0 ≤ (x23_6 : Int) := of_decide_eq_true (by first | (with_reducible assumption) | assumption)
                                                        have q453 : x23_6 < (t448.length : Int) := of_decide_eq_true (by first | (with_reducible assumption) | assumption)
                                                        obtain ⟨ad453, e453, hx453_0⟩ := Kd.at_int (Kd.R_reads' HO_21.out).2.2 x23_6 p453 q453
                                                        cases e453
                                                        replace p453 := eq_true p453
                                                        replace q453 := eq_true q453
                                                        obtain ⟨Ao104, co104, eo104⟩ := Kd.R_slice HO_15.out
                                                        subst eo104
                                                        have p454 : 0 ≤ ((rd t448 x23_6) : Int) := of_decide_eq_true (by first | (with_reducible assumption) | assumption)
                                                        have q454 : (rd t448 x23_6) < (t440.length : Int) := of_decide_eq_true (by first | (with_reducible assumption) | assumption)
                                                        obtain ⟨ad454, e454, hx454_0⟩ := Kd.at_int (Kd.R_reads' HO_15.out).2.2 (rd t448 x23_6) p454 q454
                                                        cases e454
                                                        replace p454 := eq_true p454
                                                        replace q454 := eq_true q454
                                                        go_wp2
                                                        repeat (go_quiet (fail); try go_wp2)
                                                        go_ret
                                                        exact ⟨by first | rfl | (simp [errW_none, errW_some] <;> rfl) | (simp [*, errW_none, errW_some] <;> rfl), by repeat (first | (with_reducible first | exact HB.out | apply below_alloc | apply pw_below_drewN | apply below_drew1) | exact HB.out)⟩
                                                      · as_aux_lemma =>
                                                        rw [if_neg c102] at H
                                                        have c102b0 : decide ((rd t448 x23_6) ≤ x20_4) = false := decide_eq_false c102
                                                        clear c102
                                                        by_cases c105 : x20_4 ≥ 0
                                                        · rw [if_pos c105] at H
                                                          have c105b0 : decide (0 ≤ x20_4) = true := decide_eq_true c105
                                                          clear c105
                                                          by_cases c106 : 0 ≤ x20_4
                                                          · rw [if_pos c106] at H
                                                            have c106b0 : decide (0 ≤ x20_4) = true := decide_eq_true c106
                                                            clear c106
                                                            by_cases c107 : x20_4 < (t444.length : Int)
                                                            · rw [if_pos c107] at H
                                                              have c107b0 : decide (x20_4 < (t444.length : Int)) = true := decide_eq_true c107
                                                              clear c107
                                                              by_cases c108 : (rd t444 x20_4) ≥ 0
                                                              · rw [if_pos c108] at H
                                                                have c108b0 : decide (0 ≤ (rd t444 x20_4)) = true := decide_eq_true c108
                                                                clear c108
                                                                by_cases c109 : (rd t448 x23_6) ≥ (rd t444 x20_4)
                                                                · rw [if_pos c109] at H
                                                                  have c109b0 : decide ((rd t444 x20_4) ≤ (rd t448 x23_6)) = true := decide_eq_true c109
                                                                  clear c109
                                                                  obtain rfl := Option.some.inj H
                                                                  obtain ⟨Ao110, co110, eo110⟩ := Kd.R_slice HO_21.out
                                                                  subst eo110
                                                                  have p453 : 0 ≤ (x23_6 : Int) := of_decide_eq_true (by first | (with_reducible assumption) | assumption)
                                                                  have q453 : x23_6 < (t448.length : Int) := of_decide_eq_true (by first | (with_reducible assumption) | assumption)
                                                                  obtain ⟨ad453, e453, hx453_0⟩ := Kd.at_int (Kd.R_reads' HO_21.out).2.2 x23_6 p453 q453
                                                                  cases e453
                                                                  replace p453 := eq_true p453
                                                                  replace q453 := eq_true q453
                                                                  obtain ⟨Ao111, co111, eo111⟩ := Kd.R_slice HO_15.out
                                                                  subst eo111
                                                                  have p454 : 0 ≤ ((rd t448 x23_6) : Int) := of_decide_eq_true (by first | (with_reducible assumption) | assumption)
                                                                  have q454 : (rd t448 x23_6) < (t440.length : Int) := of_decide_eq_true (by first | (with_reducible assumption) | assumption)
                                                                  obtain ⟨ad454, e454, hx454_0⟩ := Kd.at_int (Kd.R_reads' HO_15.out).2.2 (rd t448 x23_6) p454 q454
                                                                  cases e454
                                                                  replace p454 := eq_true p454
                                                                  replace q454 := eq_true q454
                                                                  obtain ⟨Ao112, co112, eo112⟩ := Kd.R_slice HO_17.out
                                                                  subst eo112
                                                                  have p458 : 0 ≤ (x20_4 : Int) := of_decide_eq_true (by first | (with_reducible assumption) | assumption)
                                                                  have q458 : x20_4 < (t444.length : Int) := of_decide_eq_true (by first | (with_reducible assumption) | assumption)
                                                                  obtain ⟨ad458, e458, hx458_0⟩ := Kd.at_int (Kd.R_reads' HO_17.out).2.2 x20_4 p458 q458
                                                                  cases e458
                                                                  replace p458 := eq_true p458
                                                                  replace q458 := eq_true q458
                                                                  have p459 : 0 ≤ (x20_4 : Int) := of_decide_eq_true (by first | (with_reducible assumption) | assumption)
                                                                  have q459 : x20_4 < (t444.length : Int) := of_decide_eq_true (by first | (with_reducible assumption) | assumption)
                                                                  obtain ⟨ad459, e459, hx459_0⟩ := Kd.at_int (Kd.R_reads' HO_17.out).2.2 x20_4 p459 q459
                                                                  obtain rfl : ad458 = ad459 := (by injection e459)
                                                                  replace p459 := eq_true p459
                                                                  replace q459 := eq_true q459
                                                                  go_wp2
                                                                  repeat (go_quiet (fail); try go_wp2)
                                                                  go_ret
                                                                  exact ⟨by first | rfl | (simp [errW_none, errW_some] <;> rfl) | (simp [*, errW_none, errW_some] <;> rfl), by repeat (first | (with_reducible first | exact HB.out | apply below_alloc | apply pw_below_drewN | apply below_drew1) | exact HB.out)⟩
                                                                · rw [if_neg c109] at H
                                                                  have c109b0 : decide ((rd t444 x20_4) ≤ (rd t448 x23_6)) = false := decide_eq_false c109
                                                                  clear c109
                                                                  have H' := Aside0.mk H
                                                                  clear H
                                                                  obtain ⟨Ao113, co113, eo113⟩ := Kd.R_slice HO_21.out
                                                                  subst eo113
                                                                  have p453 : 0 ≤ (x23_6 : Int) := of_decide_eq_true (by first | (with_reducible assumption) | assumption)
                                                                  have q453 : x23_6 < (t448.length : Int) := of_decide_eq_true (by first | (with_reducible assumption) | assumption)
                                                                  obtain ⟨ad453, e453, hx453_0⟩ := Kd.at_int (Kd.R_reads' HO_21.out).2.2 x23_6 p453 q453
                                                                  cases e453
                                                                  replace p453 := eq_true p453
                                                                  replace q453 := eq_true q453
                                                                  obtain ⟨Ao114, co114, eo114⟩ := Kd.R_slice HO_15.out
                                                                  subst eo114
                                                                  have p454 : 0 ≤ ((rd t448 x23_6) : Int) := of_decide_eq_true (by first | (with_reducible assumption) | assumption)
                                                                  have q454 : (rd t448 x23_6) < (t440.length : Int) := of_decide_eq_true (by first | (with_reducible assumption) | assumption)
                                                                  obtain ⟨ad454, e454, hx454_0⟩ := Kd.at_int (Kd.R_reads' HO_15.out).2.2 (rd t448 x23_6) p454 q454
                                                                  cases e454
                                                                  replace p454 := eq_true p454
                                                                  replace q454 := eq_true q454
                                                                  obtain ⟨Ao115, co115, eo115⟩ := Kd.R_slice HO_17.out
                                                                  subst eo115
                                                                  have p458 : 0 ≤ (x20_4 : Int) := of_decide_eq_true (by first | (with_reducible assumption) | assumption)
                                                                  have q458 : x20_4 < (t444.length : Int) := of_decide_eq_true (by first | (with_reducible assumption) | assumption)
                                                                  obtain ⟨ad458, e458, hx458_0⟩ := Kd.at_int (Kd.R_reads' HO_17.out).2.2 x20_4 p458 q458
                                                                  cases e458
                                                                  replace p458 := eq_true p458
                                                                  replace q458 := eq_true q458
                                                                  have p459 : 0 ≤ (x20_4 : Int) := of_decide_eq_true (by first | (with_reducible assumption) | assumption)
                                                                  have q459 : x20_4 < (t444.length : Int) := of_decide_eq_true (by first | (with_reducible assumption) | assumption)
                                                                  obtain ⟨ad459, e459, hx459_0⟩ := Kd.at_int (Kd.R_reads' HO_17.out).2.2 x20_4 p459 q459
                                                                  obtain rfl : ad458 = ad459 := (by injection e459)
                                                                  replace p459 := eq_true p459
                                                                  replace q459 := eq_true q459
                                                                  go_wp2
                                                                  repeat (go_quiet (fail); try go_wp2)
                                                                  go_roundg k6
                                                                  case measure => have := HK1.out; have := HJ39.out; have := HJ46.out; have := HK4.out; have := HJ56.out; have := HK6.out; omega
                                                                  case rel => exact ⟨(wrap64 (x23_6 + 1)), (by first | rfl | (simp; done) | (simp [*]; done)), H', ⟨by have := HK1.out; have := HJ39.out; have := HJ46.out; have := HK4.out; have := HJ56.out; have := HK6.out; omega⟩, ⟨by (with_reducible repeat (first | apply Kd.R_alloc | apply Kd.R_drewN | apply Kd.R_drew)); exact HO_15.out⟩, ⟨by (with_reducible repeat (first | apply Kd.R_alloc | apply Kd.R_drewN | apply Kd.R_drew)); exact HO_17.out⟩, ⟨by (with_reducible repeat (first | apply Kd.R_alloc | apply Kd.R_drewN | apply Kd.R_drew)); exact HO_21.out⟩, ⟨by repeat (first | (with_reducible first | exact HB.out | apply below_alloc | apply pw_below_drewN | apply below_drew1) | exact HB.out)⟩⟩
                                                              · rw [if_neg c108] at H
                                                                have c108b0 : decide (0 ≤ (rd t444 x20_4)) = false := decide_eq_false c108
                                                                clear c108
                                                                have H' := Aside0.mk H
                                                                clear H
                                                                obtain ⟨Ao116, co116, eo116⟩ := Kd.R_slice HO_21.out
                                                                subst eo116
                                                                have p453 : 0 ≤ (x23_6 : Int) := of_decide_eq_true (by first | (with_reducible assumption) | assumption)
                                                                have q453 : x23_6 < (t448.length : Int) := of_decide_eq_true (by first | (with_reducible assumption) | assumption)
                                                                obtain ⟨ad453, e453, hx453_0⟩ := Kd.at_int (Kd.R_reads' HO_21.out).2.2 x23_6 p453 q453
                                                                cases e453
                                                                replace p453 := eq_true p453
                                                                replace q453 := eq_true q453
                                                                obtain ⟨Ao117, co117, eo117⟩ := Kd.R_slice HO_15.out
                                                                subst eo117
                                                                have p454 : 0 ≤ ((rd t448 x23_6) : Int) := of_decide_eq_true (by first | (with_reducible assumption) | assumption)
                                                                have q454 : (rd t448 x23_6) < (t440.length : Int) := of_decide_eq_true (by first | (with_reducible assumption) | assumption)
                                                                obtain ⟨ad454, e454, hx454_0⟩ := Kd.at_int (Kd.R_reads' HO_15.out).2.2 (rd t448 x23_6) p454 q454
                                                                cases e454
                                                                replace p454 := eq_true p454
                                                                replace q454 := eq_true q454
                                                                obtain ⟨Ao118, co118, eo118⟩ := Kd.R_slice HO_17.out
                                                                subst eo118
                                                                have p458 : 0 ≤ (x20_4 : Int) := of_decide_eq_true (by first | (with_reducible assumption) | assumption)
                                                                have q458 : x20_4 < (t444.length : Int) := of_decide_eq_true (by first | (with_reducible assumption) | assumption)
                                                                obtain ⟨ad458, e458, hx458_0⟩ := Kd.at_int (Kd.R_reads' HO_17.out).2.2 x20_4 p458 q458
                                                                cases e458
                                                                replace p458 := eq_true p458
                                                                replace q458 := eq_true q458
                                                                go_wp2
                                                                repeat (go_quiet (fail); try go_wp2)
                                                                go_roundg k6
                                                                case measure => have := HK1.out; have := HJ39.out; have := HJ46.out; have := HK4.out; have := HJ56.out; have := HK6.out; omega
                                                                case rel => exact ⟨(wrap64 (x23_6 + 1)), (by first | rfl | (simp; done) | (simp [*]; done)), H', ⟨by have := HK1.out; have := HJ39.out; have := HJ46.out; have := HK4.out; have := HJ56.out; have := HK6.out; omega⟩, ⟨by (with_reducible repeat (first | apply Kd.R_alloc | apply Kd.R_drewN | apply Kd.R_drew)); exact HO_15.out⟩, ⟨by (with_reducible repeat (first | apply Kd.R_alloc | apply Kd.R_drewN | apply Kd.R_drew)); exact HO_17.out⟩, ⟨by (with_reducible repeat (first | apply Kd.R_alloc | apply Kd.R_drewN | apply Kd.R_drew)); exact HO_21.out⟩, ⟨by repeat (first | (with_reducible first | exact HB.out | apply below_alloc | apply pw_below_drewN | apply below_drew1) | exact HB.out)⟩⟩
                                                            · rw [if_neg c107] at H
                                                              exact absurd H (by simp)
                                                          · rw [if_neg c106] at H
                                                            exact absurd H (by simp)
                                                        · rw [if_neg c105] at H
                                                          have c105b0 : decide (0 ≤ x20_4) = false := decide_eq_false c105
                                                          clear c105
                                                          have H' := Aside0.mk H
                                                          clear H
                                                          obtain ⟨Ao119, co119, eo119⟩ := Kd.R_slice HO_21.out
                                                          subst eo119
                                                          have p453 : 0 ≤ (x23_6 : Int) := of_decide_eq_true (by first | (with_reducible assumption) | assumption)
                                                          have q453 : x23_6 < (t448.length : Int) := of_decide_eq_true (by first | (with_reducible assumption) | assumption)
                                                          obtain ⟨ad453, e453, hx453_0⟩ := Kd.at_int (Kd.R_reads' HO_21.out).2.2 x23_6 p453 q453
                                                          cases e453
                                                          replace p453 := eq_true p453
                                                          replace q453 := eq_true q453
                                                          obtain ⟨Ao120, co120, eo120⟩ := Kd.R_slice HO_15.out
                                                          subst eo120
                                                          have p454 : 0 ≤ ((rd t448 x23_6) : Int) := of_decide_eq_true (by first | (with_reducible assumption) | assumption)
                                                          have q454 : (rd t448 x23_6) < (t440.length : Int) := of_decide_eq_true (by first | (with_reducible assumption) | assumption)
                                                          obtain ⟨ad454, e454, hx454_0⟩ := Kd.at_int (Kd.R_reads' HO_15.out).2.2 (rd t448 x23_6) p454 q454
                                                          cases e454
                                                          replace p454 := eq_true p454
                                                          replace q454 := eq_true q454
                                                          go_wp2
                                                          repeat (go_quiet (fail); try go_wp2)
                                                          go_roundg k6
                                                          case measure => have := HK1.out; have := HJ39.out; have := HJ46.out; have := HK4.out; have := HJ56.out; have := HK6.out; omega
                                                          case rel => exact ⟨(wrap64 (x23_6 + 1)), (by first | rfl | (simp; done) | (simp [*]; done)), H', ⟨by have := HK1.out; have := HJ39.out; have := HJ46.out; have := HK4.out; have := HJ56.out; have := HK6.out; omega⟩, ⟨by (with_reducible repeat (first | apply Kd.R_alloc | apply Kd.R_drewN | apply Kd.R_drew)); exact HO_15.out⟩, ⟨by (with_reducible repeat (first | apply Kd.R_alloc | apply Kd.R_drewN | apply Kd.R_drew)); exact HO_17.out⟩, ⟨by (with_reducible repeat (first | apply Kd.R_alloc | apply Kd.R_drewN | apply Kd.R_drew)); exact HO_21.out⟩, ⟨by repeat (first | (with_reducible first | exact HB.out | apply below_alloc | apply pw_below_drewN | apply below_drew1) | exact HB.out)⟩⟩
                                                  · rw [if_neg c75] at H
                                                    have c75b0 : ((rd t440 (rd t448 x23_6)) == x20_4) = false := beq_eq_false_iff_ne.mpr c75
                                                    have c75b1 : ((rd t440 (rd t448 x23_6)) != x20_4) = true := bne_iff_ne.mpr c75
                                                    obtain rfl := Option.some.inj H
                                                    obtain ⟨Ao121, co121, eo121⟩ := Kd.R_slice HO_21.out
                                                    subst eo121
                                                    have p453 : 0 ≤ (x23_6 : Int) := of_decide_eq_true (by first | (with_reducible assumption) | assumption)
                                                    have q453 : x23_6 < (t448.length : Int) := of_decide_eq_true (by first | (with_reducible assumption) | assumption)
                                                    obtain ⟨ad453, e453, hx453_0⟩ := Kd.at_int (Kd.R_reads' HO_21.out).2.2 x23_6 p453 q453
                                                    cases e453
                                                    replace p453 := eq_true p453
                                                    replace q453 := eq_true q453
                                                    obtain ⟨Ao122, co122, eo122⟩ := Kd.R_slice HO_15.out
                                                    subst eo122
                                                    have p454 : 0 ≤ ((rd t448 x23_6) : Int) := of_decide_eq_true (by first | (with_reducible assumption) | assumption)
                                                    have q454 : (rd t448 x23_6) < (t440.length : Int) := of_decide_eq_true (by first | (with_reducible assumption) | assumption)
                                                    obtain ⟨ad454, e454, hx454_0⟩ := Kd.at_int (Kd.R_reads' HO_15.out).2.2 (rd t448 x23_6) p454 q454
                                                    cases e454
                                                    replace p454 := eq_true p454
                                                    replace q454 := eq_true q454
                                                    go_wp2
                                                    repeat (go_quiet (fail); try go_wp2)
                                                    go_ret
                                                    exact ⟨by first | rfl | (simp [errW_none, errW_some] <;> rfl) | (simp [*, errW_none, errW_some] <;> rfl), by repeat (first | (with_reducible first | exact HB.out | apply below_alloc | apply pw_below_drewN | apply below_drew1) | exact HB.out)⟩
                                                · rw [if_neg c74] at H
                                                  exact absurd H (by simp)
                                              · rw [if_neg c73] at H
                                                exact absurd H (by simp)
                                        · rw [if_neg c68] at H
                                          exact absurd H (by simp)
                                      · rw [if_neg c67] at H
                                        have c67b0 : decide (x23_6 < (t448.length : Int)) = false := decide_eq_false c67
                                        clear c67
                                        have H' := Aside0.mk H
                                        clear H
                                        obtain ⟨Ao123, co123, eo123⟩ := Kd.R_slice HO_21.out
                                        subst eo123
                                        go_wp2
                                        repeat (go_quiet (fail); try go_wp2)
                                        go_roundg k6
                                        case measure => have := HK1.out; have := HJ39.out; have := HJ46.out; have := HK4.out; have := HJ56.out; have := HK6.out; omega
                                        case rel => exact ⟨(wrap64 (x19_4 + (t448.length : Int))), (wrap64 (x20_4 + 1)), (by first | rfl | (simp; done) | (simp [*]; done)), (by first | rfl | (simp; done) | (simp [*]; done)), H', ⟨by have := HK1.out; have := HJ39.out; have := HJ46.out; have := HK4.out; have := HJ56.out; have := HK6.out; omega⟩, ⟨by (with_reducible repeat (first | apply Kd.R_alloc | apply Kd.R_drewN | apply Kd.R_drew)); exact Kd.R_mono HO_15.out (fun _ hk => hk.1)⟩, ⟨by (with_reducible repeat (first | apply Kd.R_alloc | apply Kd.R_drewN | apply Kd.R_drew)); exact Kd.R_mono HO_17.out (fun _ hk => hk.1)⟩, ⟨by repeat (first | (with_reducible first | exact HB.out | apply below_alloc | apply pw_below_drewN | apply below_drew1) | exact HB.out)⟩⟩
                          · rw [if_neg c55] at H
                            have c55b0 : decide (x20_4 < (t439.size : Int)) = false := decide_eq_false c55
                            clear c55
                            obtain rfl := Option.some.inj H
                            go_wp2
                            repeat (go_quiet (fail); try go_wp2)
                            go_ret
                            exact ⟨by first | rfl | (simp [errW_none, errW_some] <;> rfl) | (simp [*, errW_none, errW_some] <;> rfl), by repeat (first | (with_reducible first | exact HB.out | apply below_alloc | apply pw_below_drewN | apply below_drew1) | exact HB.out)⟩

/-- THE ONE PURE STATEMENT of laws_FnTrees: yours. -/
def laws_FnTrees.Pure : Prop := ∀ (l0 : List Int) (l1 : List Int), l0.length ≤ maxLen → l0.length * 1 ≤ 140737488351232 → (∀ x ∈ l0, (Lit.int .u8 x).wf = true) → l1.length ≤ maxLen → l1.length * 1 ≤ 140737488351232 → (∀ x ∈ l1, (Lit.int .u8 x).wf = true) → ∃ k, laws_FnTrees.f k l0 l1 = some true
theorem laws_FnTrees.walk (P : laws_FnTrees.Pure) (a0 : Option Addr) (len0 cap0 : Nat) (z0 : List Int) (a1 : Option Addr) (len1 cap1 : Nat) (z1 : List Int) (w : World) (w0 : (a0 = none ∧ len0 = 0 ∧ cap0 = 0 ∧ z0 = []) ∨ ∃ x, a0 = some x ∧ len0 ≤ cap0 ∧ cap0 ≤ maxLen ∧ z0.length = cap0 ∧ (∀ i, i < z0.length → w.cell? (x.add i) = some (.int .u8 (z0.getD i 0))) ∧ ∀ n ∈ z0, (Lit.int .u8 n).wf = true) (y0 : len0 * 1 ≤ 140737488351232) (w1 : (a1 = none ∧ len1 = 0 ∧ cap1 = 0 ∧ z1 = []) ∨ ∃ x, a1 = some x ∧ len1 ≤ cap1 ∧ cap1 ≤ maxLen ∧ z1.length = cap1 ∧ (∀ i, i < z1.length → w.cell? (x.add i) = some (.int .u8 (z1.getD i 0))) ∧ ∀ n ∈ z1, (Lit.int .u8 n).wf = true) (y1 : len1 * 1 ≤ 140737488351232) :
    Calls Try.prog 5 #[.slice a0 len0 cap0, .slice a1 len1 cap1] w fun e w' => e = .returned (.bool true) ∧ Below w.heap.size w w' := by
  obtain ⟨l0, rfl, hr0, hm0, hw0, hc0⟩ := ReadsInt.ofRowC w0
  obtain ⟨l1, rfl, hr1, hm1, hw1, hc1⟩ := ReadsInt.ofRowC w1
  obtain ⟨k, h⟩ := P l0 l1 hm0 y0 hw0 hm1 y1 hw1
  refine (laws_FnTrees.calls k _ _ l0 _ _ l1 true w (Kd.C_of_reads (d := (0 : Int)) (h1 := fun _ => rfl) hr0) hc0 (Kd.C_of_reads (d := (0 : Int)) (h1 := fun _ => rfl) hr1) hc1 h).mono ?_
  rintro e w' ⟨rfl, hd⟩
  exact ⟨rfl, hd⟩

end Go.Proofs.Ytcaijfndmkdboaa.T
