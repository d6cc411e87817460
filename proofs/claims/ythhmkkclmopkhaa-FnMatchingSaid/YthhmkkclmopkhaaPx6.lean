/- Machine side of the laws of this seat: for each Go function that they reach, a Lean function and the proof that a call comes to just its answer. Written by a program of this session. -/
import Derived.Test.YthhmkkclmopkhaaPx0
import Derived.Test.YthhmkkclmopkhaaPx11
import Derived.Test.YthhmkkclmopkhaaPx14
import Derived.Test.YthhmkkclmopkhaaPx15
import Derived.Test.YthhmkkclmopkhaaPx16
import Derived.Test.YthhmkkclmopkhaaPx17
import Derived.Test.YthhmkkclmopkhaaPx18
import Derived.Test.YthhmkkclmopkhaaPx19
import Derived.Test.YthhmkkclmopkhaaPx20
import Derived.Test.YthhmkkclmopkhaaPx21
import Derived.Test.YthhmkkclmopkhaaPx22
namespace Go.Proofs.Ythhmkkclmopkhaa.P
open Go.RowKit Go.Proofs.YthhmkkclmopkhaaW.PrintWords Go.Proofs.YthhmkkclmopkhaaW.PrintLast Go.Proofs.YthhmkkclmopkhaaW.PrintMore
attribute [local go_sem] max2_int min2_int max_two min_two max_three min_three max_four min_four   -- for this text's walks alone
set_option linter.unusedVariables false
set_option linter.unusedSimpArgs false

/-! ### laws_FnMatching: function 6 -/
mutual
def laws_FnMatching.j0 : Nat → ByteArray → List Int → List Int → ByteArray → Bool → Option (Bool)
  | 0, _, _, _, _, _ => none
  | k + 1, x5, x6, x10, x17, x138 => if x138 = true then (some false) else (laws_FnMatching.l0 k x5 x6 x10 x17 (⟨#[]⟩ : ByteArray) (x5.size : Int) 0)
def laws_FnMatching.l0 : Nat → ByteArray → List Int → List Int → ByteArray → ByteArray → Int → Int → Option (Bool)
  | 0, _, _, _, _, _, _, _ => none
  | k + 1, x5, x6, x10, x17, x21, x22, x23 => if x23 < x22 then (if 0 ≤ x23 then (if x23 < (x5.size : Int) then ((laws_a2Call.f (bt x5 x23)).bind fun t427 => (if t427 = true then (laws_FnMatching.j2 k x5 x6 x10 x17 x21 x22 x23 false) else ((laws_a2Return.f (bt x5 x23)).bind fun t428 => (laws_FnMatching.j2 k x5 x6 x10 x17 x21 x22 x23 (!t428))))) else (none)) else (none)) else (some (x17.toList == x21.toList))
def laws_FnMatching.j2 : Nat → ByteArray → List Int → List Int → ByteArray → ByteArray → Int → Int → Bool → Option (Bool)
  | 0, _, _, _, _, _, _, _, _ => none
  | k + 1, x5, x6, x10, x17, x21, x22, x23, x24 => if 0 ≤ x23 then (if x23 < (x6.length : Int) then (if (((rd x6 x23) == (-1)) != x24) = true then (laws_FnMatching.j3 k x5 x6 x10 x17 x21 x22 x23 true) else (if (rd x6 x23) < (-2) then (laws_FnMatching.j3 k x5 x6 x10 x17 x21 x22 x23 true) else (laws_FnMatching.j3 k x5 x6 x10 x17 x21 x22 x23 (decide ((rd x6 x23) ≥ x22))))) else (none)) else (none)
def laws_FnMatching.j3 : Nat → ByteArray → List Int → List Int → ByteArray → ByteArray → Int → Int → Bool → Option (Bool)
  | 0, _, _, _, _, _, _, _, _ => none
  | k + 1, x5, x6, x10, x17, x21, x22, x23, x179 => if x179 = true then (some false) else (if 0 ≤ x23 then (if x23 < (x6.length : Int) then (if (rd x6 x23) ≥ 0 then (laws_FnMatching.j4 k x5 x6 x10 x17 x21 x22 x23 (wrap64 ((wrap64 (x22 - 1)) - (rd x6 x23)))) else (laws_FnMatching.j4 k x5 x6 x10 x17 x21 x22 x23 (rd x6 x23))) else (none)) else (none))
def laws_FnMatching.j4 : Nat → ByteArray → List Int → List Int → ByteArray → ByteArray → Int → Int → Int → Option (Bool)
  | 0, _, _, _, _, _, _, _, _ => none
  | k + 1, x5, x6, x10, x17, x21, x22, x23, x25 => if 0 ≤ (wrap64 ((wrap64 (x22 - 1)) - x23)) then (if (wrap64 ((wrap64 (x22 - 1)) - x23)) < (x10.length : Int) then (if (rd x10 (wrap64 ((wrap64 (x22 - 1)) - x23))) = x25 then (if 0 ≤ x23 then (if x23 < (x6.length : Int) then (if (rd x6 x23) = (-2) then (if x23 ≤ (wrap64 (x23 + 1)) then (if (wrap64 (x23 + 1)) ≤ (x5.size : Int) then (if x21.size + (x5.extract (x23 : Int).toNat ((wrap64 (x23 + 1)) : Int).toNat).size ≤ 9223372036854775807 then (laws_FnMatching.j5 k x5 x6 x10 x17 (x21 ++ (x5.extract (x23 : Int).toNat ((wrap64 (x23 + 1)) : Int).toNat)) x22 x23) else (none)) else (none)) else (none)) else (laws_FnMatching.j5 k x5 x6 x10 x17 x21 x22 x23)) else (none)) else (none)) else (some false)) else (none)) else (none)
def laws_FnMatching.j5 : Nat → ByteArray → List Int → List Int → ByteArray → ByteArray → Int → Int → Option (Bool)
  | 0, _, _, _, _, _, _, _ => none
  | k + 1, x5, x6, x10, x17, x21, x22, x23 => if 0 ≤ x23 then (if x23 < (x6.length : Int) then (if (rd x6 x23) < 0 then (laws_FnMatching.l0 k x5 x6 x10 x17 x21 x22 (wrap64 (x23 + 1))) else (if 0 ≤ (rd x6 x23) then (if (rd x6 x23) < (x6.length : Int) then (if (rd x6 (rd x6 x23)) = x23 then (if x23 < (x5.size : Int) then ((laws_a2Call.f (bt x5 x23)).bind fun t438 => (laws_FnMatching.j6 k x5 x6 x10 x17 x21 x22 x23 (t438 != (decide ((rd x6 x23) > x23))))) else (none)) else (laws_FnMatching.j6 k x5 x6 x10 x17 x21 x22 x23 true)) else (none)) else (none))) else (none)) else (none)
def laws_FnMatching.j6 : Nat → ByteArray → List Int → List Int → ByteArray → ByteArray → Int → Int → Bool → Option (Bool)
  | 0, _, _, _, _, _, _, _, _ => none
  | k + 1, x5, x6, x10, x17, x21, x22, x23, x237 => if x237 = true then (some false) else (if 0 ≤ x23 then (if x23 < (x6.length : Int) then (if (rd x6 x23) > x23 then ((impl_BodyOf.f k x5 x23).bind fun bt441 => (if 0 ≤ (wrap64 (x23 + 1)) then (if (wrap64 (x23 + 1)) ≤ (rd x6 x23) then (if (rd x6 x23) ≤ (x5.size : Int) then ((impl_IsMatched.f k (x5.extract ((wrap64 (x23 + 1)) : Int).toNat ((rd x6 x23) : Int).toNat)).bind fun bt444 => (if bt441.2 = 0 then (if bt444.2 = 0 then (if bt441.1.toList = (x5.extract ((wrap64 (x23 + 1)) : Int).toNat ((rd x6 x23) : Int).toNat).toList then (if bt444.1 = true then (laws_FnMatching.l0 k x5 x6 x10 x17 x21 x22 (wrap64 (x23 + 1))) else (some false)) else (some false)) else (some false)) else (some false))) else (none)) else (none)) else (none))) else (laws_FnMatching.l0 k x5 x6 x10 x17 x21 x22 (wrap64 (x23 + 1)))) else (none)) else (none))
end
def laws_FnMatching.f (k : Nat) (l0 : List Int) (l1 : List Int) : Option (Bool) := (laws_a2Long.f l0 l1).bind fun t406 => (if t406 = true then (some true) else ((spec_A2Word.f k l0 16).bind fun t407 => ((impl_PartnersOf.f k t407).bind fun bt408 => ((impl_TurnWord.f k t407).bind fun bt412 => ((impl_PartnersOf.f k bt412.1).bind fun bt414 => ((impl_TurnWord.f k bt412.1).bind fun bt418 => ((impl_PendingOf.f k t407).bind fun bt420 => ((impl_CoreOf.f k t407).bind fun bt423 => ((impl_IsMatched.f k t407).bind fun bt425 => (if bt408.2 = 0 then (if bt412.2 = 0 then (if bt414.2 = 0 then (if bt418.2 = 0 then (if bt420.2.2 = 0 then (if bt423.2 = 0 then (if bt425.2 = 0 then (if (bt408.1.length : Int) = (t407.size : Int) then (if (bt414.1.length : Int) = (t407.size : Int) then (if (bt412.1.size : Int) = (t407.size : Int) then (if bt418.1.toList = t407.toList then (if (bt425.1 != ((wrap64 (bt420.1 + bt420.2.1)) == 0)) = true then (laws_FnMatching.j0 k t407 bt408.1 bt414.1 bt423.1 true) else (laws_FnMatching.j0 k t407 bt408.1 bt414.1 bt423.1 ((bt423.1.size : Int) != (wrap64 (bt420.1 + bt420.2.1))))) else (laws_FnMatching.j0 k t407 bt408.1 bt414.1 bt423.1 true)) else (laws_FnMatching.j0 k t407 bt408.1 bt414.1 bt423.1 true)) else (laws_FnMatching.j0 k t407 bt408.1 bt414.1 bt423.1 true)) else (laws_FnMatching.j0 k t407 bt408.1 bt414.1 bt423.1 true)) else (laws_FnMatching.j0 k t407 bt408.1 bt414.1 bt423.1 true)) else (laws_FnMatching.j0 k t407 bt408.1 bt414.1 bt423.1 true)) else (laws_FnMatching.j0 k t407 bt408.1 bt414.1 bt423.1 true)) else (laws_FnMatching.j0 k t407 bt408.1 bt414.1 bt423.1 true)) else (laws_FnMatching.j0 k t407 bt408.1 bt414.1 bt423.1 true)) else (laws_FnMatching.j0 k t407 bt408.1 bt414.1 bt423.1 true)) else (laws_FnMatching.j0 k t407 bt408.1 bt414.1 bt423.1 true)))))))))))
theorem laws_FnMatching.mono_l : ∀ k, (∀ y0 y1 y2 y3 y4, LeO (laws_FnMatching.j0 k y0 y1 y2 y3 y4) (laws_FnMatching.j0 (k + 1) y0 y1 y2 y3 y4)) ∧ (∀ y0 y1 y2 y3 y4 y5 y6, LeO (laws_FnMatching.l0 k y0 y1 y2 y3 y4 y5 y6) (laws_FnMatching.l0 (k + 1) y0 y1 y2 y3 y4 y5 y6)) ∧ (∀ y0 y1 y2 y3 y4 y5 y6 y7, LeO (laws_FnMatching.j2 k y0 y1 y2 y3 y4 y5 y6 y7) (laws_FnMatching.j2 (k + 1) y0 y1 y2 y3 y4 y5 y6 y7)) ∧ (∀ y0 y1 y2 y3 y4 y5 y6 y7, LeO (laws_FnMatching.j3 k y0 y1 y2 y3 y4 y5 y6 y7) (laws_FnMatching.j3 (k + 1) y0 y1 y2 y3 y4 y5 y6 y7)) ∧ (∀ y0 y1 y2 y3 y4 y5 y6 y7, LeO (laws_FnMatching.j4 k y0 y1 y2 y3 y4 y5 y6 y7) (laws_FnMatching.j4 (k + 1) y0 y1 y2 y3 y4 y5 y6 y7)) ∧ (∀ y0 y1 y2 y3 y4 y5 y6, LeO (laws_FnMatching.j5 k y0 y1 y2 y3 y4 y5 y6) (laws_FnMatching.j5 (k + 1) y0 y1 y2 y3 y4 y5 y6)) ∧ (∀ y0 y1 y2 y3 y4 y5 y6 y7, LeO (laws_FnMatching.j6 k y0 y1 y2 y3 y4 y5 y6 y7) (laws_FnMatching.j6 (k + 1) y0 y1 y2 y3 y4 y5 y6 y7))
  | 0 => ⟨fun _ _ _ _ _ r h => by simp [laws_FnMatching.j0] at h, fun _ _ _ _ _ _ _ r h => by simp [laws_FnMatching.l0] at h, fun _ _ _ _ _ _ _ _ r h => by simp [laws_FnMatching.j2] at h, fun _ _ _ _ _ _ _ _ r h => by simp [laws_FnMatching.j3] at h, fun _ _ _ _ _ _ _ _ r h => by simp [laws_FnMatching.j4] at h, fun _ _ _ _ _ _ _ r h => by simp [laws_FnMatching.j5] at h, fun _ _ _ _ _ _ _ _ r h => by simp [laws_FnMatching.j6] at h⟩
  | k + 1 => by
    obtain ⟨ih0, ih1, ih2, ih3, ih4, ih5, ih6⟩ := laws_FnMatching.mono_l k
    refine ⟨?_, ?_, ?_, ?_, ?_, ?_, ?_⟩
    · intro y0 y1 y2 y3 y4
      unfold laws_FnMatching.j0
      repeat' first
      | (with_reducible exact ih0 _ _ _ _ _)
      | (with_reducible exact ih1 _ _ _ _ _ _ _)
      | (with_reducible exact ih2 _ _ _ _ _ _ _ _)
      | (with_reducible exact ih3 _ _ _ _ _ _ _ _)
      | (with_reducible exact ih4 _ _ _ _ _ _ _ _)
      | (with_reducible exact ih5 _ _ _ _ _ _ _)
      | (with_reducible exact ih6 _ _ _ _ _ _ _ _)
      | (with_reducible exact impl_BodyOf.mono _ _ _)
      | (with_reducible exact impl_CoreOf.mono _ _)
      | (with_reducible exact impl_IsMatched.mono _ _)
      | (with_reducible exact impl_PartnersOf.mono _ _)
      | (with_reducible exact impl_PendingOf.mono _ _)
      | (with_reducible exact impl_TurnWord.mono _ _)
      | (with_reducible exact spec_A2Word.mono _ _ _)
      | (with_reducible exact LeO.refl _)
      | (with_reducible exact LeO.none _)
      | (with_reducible refine LeO.ite ?_ ?_)
      | (with_reducible refine LeO.bind ?_ (fun _ => ?_))
      | exact ih0 _ _ _ _ _
      | exact ih1 _ _ _ _ _ _ _
      | exact ih2 _ _ _ _ _ _ _ _
      | exact ih3 _ _ _ _ _ _ _ _
      | exact ih4 _ _ _ _ _ _ _ _
      | exact ih5 _ _ _ _ _ _ _
      | exact ih6 _ _ _ _ _ _ _ _
      | exact impl_BodyOf.mono _ _ _
      | exact impl_CoreOf.mono _ _
      | exact impl_IsMatched.mono _ _
      | exact impl_PartnersOf.mono _ _
      | exact impl_PendingOf.mono _ _
      | exact impl_TurnWord.mono _ _
      | exact spec_A2Word.mono _ _ _
      | exact LeO.none _
      | refine LeO.ite ?_ ?_
      | refine LeO.bind ?_ (fun _ => ?_)
    · intro y0 y1 y2 y3 y4 y5 y6
      unfold laws_FnMatching.l0
      repeat' first
      | (with_reducible exact ih0 _ _ _ _ _)
      | (with_reducible exact ih1 _ _ _ _ _ _ _)
      | (with_reducible exact ih2 _ _ _ _ _ _ _ _)
      | (with_reducible exact ih3 _ _ _ _ _ _ _ _)
      | (with_reducible exact ih4 _ _ _ _ _ _ _ _)
      | (with_reducible exact ih5 _ _ _ _ _ _ _)
      | (with_reducible exact ih6 _ _ _ _ _ _ _ _)
      | (with_reducible exact impl_BodyOf.mono _ _ _)
      | (with_reducible exact impl_CoreOf.mono _ _)
      | (with_reducible exact impl_IsMatched.mono _ _)
      | (with_reducible exact impl_PartnersOf.mono _ _)
      | (with_reducible exact impl_PendingOf.mono _ _)
      | (with_reducible exact impl_TurnWord.mono _ _)
      | (with_reducible exact spec_A2Word.mono _ _ _)
      | (with_reducible exact LeO.refl _)
      | (with_reducible exact LeO.none _)
      | (with_reducible refine LeO.ite ?_ ?_)
      | (with_reducible refine LeO.bind ?_ (fun _ => ?_))
      | exact ih0 _ _ _ _ _
      | exact ih1 _ _ _ _ _ _ _
      | exact ih2 _ _ _ _ _ _ _ _
      | exact ih3 _ _ _ _ _ _ _ _
      | exact ih4 _ _ _ _ _ _ _ _
      | exact ih5 _ _ _ _ _ _ _
      | exact ih6 _ _ _ _ _ _ _ _
      | exact impl_BodyOf.mono _ _ _
      | exact impl_CoreOf.mono _ _
      | exact impl_IsMatched.mono _ _
      | exact impl_PartnersOf.mono _ _
      | exact impl_PendingOf.mono _ _
      | exact impl_TurnWord.mono _ _
      | exact spec_A2Word.mono _ _ _
      | exact LeO.none _
      | refine LeO.ite ?_ ?_
      | refine LeO.bind ?_ (fun _ => ?_)
    · intro y0 y1 y2 y3 y4 y5 y6 y7
      unfold laws_FnMatching.j2
      repeat' first
      | (with_reducible exact ih0 _ _ _ _ _)
      | (with_reducible exact ih1 _ _ _ _ _ _ _)
      | (with_reducible exact ih2 _ _ _ _ _ _ _ _)
      | (with_reducible exact ih3 _ _ _ _ _ _ _ _)
      | (with_reducible exact ih4 _ _ _ _ _ _ _ _)
      | (with_reducible exact ih5 _ _ _ _ _ _ _)
      | (with_reducible exact ih6 _ _ _ _ _ _ _ _)
      | (with_reducible exact impl_BodyOf.mono _ _ _)
      | (with_reducible exact impl_CoreOf.mono _ _)
      | (with_reducible exact impl_IsMatched.mono _ _)
      | (with_reducible exact impl_PartnersOf.mono _ _)
      | (with_reducible exact impl_PendingOf.mono _ _)
      | (with_reducible exact impl_TurnWord.mono _ _)
      | (with_reducible exact spec_A2Word.mono _ _ _)
      | (with_reducible exact LeO.refl _)
      | (with_reducible exact LeO.none _)
      | (with_reducible refine LeO.ite ?_ ?_)
      | (with_reducible refine LeO.bind ?_ (fun _ => ?_))
      | exact ih0 _ _ _ _ _
      | exact ih1 _ _ _ _ _ _ _
      | exact ih2 _ _ _ _ _ _ _ _
      | exact ih3 _ _ _ _ _ _ _ _
      | exact ih4 _ _ _ _ _ _ _ _
      | exact ih5 _ _ _ _ _ _ _
      | exact ih6 _ _ _ _ _ _ _ _
      | exact impl_BodyOf.mono _ _ _
      | exact impl_CoreOf.mono _ _
      | exact impl_IsMatched.mono _ _
      | exact impl_PartnersOf.mono _ _
      | exact impl_PendingOf.mono _ _
      | exact impl_TurnWord.mono _ _
      | exact spec_A2Word.mono _ _ _
      | exact LeO.none _
      | refine LeO.ite ?_ ?_
      | refine LeO.bind ?_ (fun _ => ?_)
    · intro y0 y1 y2 y3 y4 y5 y6 y7
      unfold laws_FnMatching.j3
      repeat' first
      | (with_reducible exact ih0 _ _ _ _ _)
      | (with_reducible exact ih1 _ _ _ _ _ _ _)
      | (with_reducible exact ih2 _ _ _ _ _ _ _ _)
      | (with_reducible exact ih3 _ _ _ _ _ _ _ _)
      | (with_reducible exact ih4 _ _ _ _ _ _ _ _)
      | (with_reducible exact ih5 _ _ _ _ _ _ _)
      | (with_reducible exact ih6 _ _ _ _ _ _ _ _)
      | (with_reducible exact impl_BodyOf.mono _ _ _)
      | (with_reducible exact impl_CoreOf.mono _ _)
      | (with_reducible exact impl_IsMatched.mono _ _)
      | (with_reducible exact impl_PartnersOf.mono _ _)
      | (with_reducible exact impl_PendingOf.mono _ _)
      | (with_reducible exact impl_TurnWord.mono _ _)
      | (with_reducible exact spec_A2Word.mono _ _ _)
      | (with_reducible exact LeO.refl _)
      | (with_reducible exact LeO.none _)
      | (with_reducible refine LeO.ite ?_ ?_)
      | (with_reducible refine LeO.bind ?_ (fun _ => ?_))
      | exact ih0 _ _ _ _ _
      | exact ih1 _ _ _ _ _ _ _
      | exact ih2 _ _ _ _ _ _ _ _
      | exact ih3 _ _ _ _ _ _ _ _
      | exact ih4 _ _ _ _ _ _ _ _
      | exact ih5 _ _ _ _ _ _ _
      | exact ih6 _ _ _ _ _ _ _ _
      | exact impl_BodyOf.mono _ _ _
      | exact impl_CoreOf.mono _ _
      | exact impl_IsMatched.mono _ _
      | exact impl_PartnersOf.mono _ _
      | exact impl_PendingOf.mono _ _
      | exact impl_TurnWord.mono _ _
      | exact spec_A2Word.mono _ _ _
      | exact LeO.none _
      | refine LeO.ite ?_ ?_
      | refine LeO.bind ?_ (fun _ => ?_)
    · intro y0 y1 y2 y3 y4 y5 y6 y7
      unfold laws_FnMatching.j4
      repeat' first
      | (with_reducible exact ih0 _ _ _ _ _)
      | (with_reducible exact ih1 _ _ _ _ _ _ _)
      | (with_reducible exact ih2 _ _ _ _ _ _ _ _)
      | (with_reducible exact ih3 _ _ _ _ _ _ _ _)
      | (with_reducible exact ih4 _ _ _ _ _ _ _ _)
      | (with_reducible exact ih5 _ _ _ _ _ _ _)
      | (with_reducible exact ih6 _ _ _ _ _ _ _ _)
      | (with_reducible exact impl_BodyOf.mono _ _ _)
      | (with_reducible exact impl_CoreOf.mono _ _)
      | (with_reducible exact impl_IsMatched.mono _ _)
      | (with_reducible exact impl_PartnersOf.mono _ _)
      | (with_reducible exact impl_PendingOf.mono _ _)
      | (with_reducible exact impl_TurnWord.mono _ _)
      | (with_reducible exact spec_A2Word.mono _ _ _)
      | (with_reducible exact LeO.refl _)
      | (with_reducible exact LeO.none _)
      | (with_reducible refine LeO.ite ?_ ?_)
      | (with_reducible refine LeO.bind ?_ (fun _ => ?_))
      | exact ih0 _ _ _ _ _
      | exact ih1 _ _ _ _ _ _ _
      | exact ih2 _ _ _ _ _ _ _ _
      | exact ih3 _ _ _ _ _ _ _ _
      | exact ih4 _ _ _ _ _ _ _ _
      | exact ih5 _ _ _ _ _ _ _
      | exact ih6 _ _ _ _ _ _ _ _
      | exact impl_BodyOf.mono _ _ _
      | exact impl_CoreOf.mono _ _
      | exact impl_IsMatched.mono _ _
      | exact impl_PartnersOf.mono _ _
      | exact impl_PendingOf.mono _ _
      | exact impl_TurnWord.mono _ _
      | exact spec_A2Word.mono _ _ _
      | exact LeO.none _
      | refine LeO.ite ?_ ?_
      | refine LeO.bind ?_ (fun _ => ?_)
    · intro y0 y1 y2 y3 y4 y5 y6
      unfold laws_FnMatching.j5
      repeat' first
      | (with_reducible exact ih0 _ _ _ _ _)
      | (with_reducible exact ih1 _ _ _ _ _ _ _)
      | (with_reducible exact ih2 _ _ _ _ _ _ _ _)
      | (with_reducible exact ih3 _ _ _ _ _ _ _ _)
      | (with_reducible exact ih4 _ _ _ _ _ _ _ _)
      | (with_reducible exact ih5 _ _ _ _ _ _ _)
      | (with_reducible exact ih6 _ _ _ _ _ _ _ _)
      | (with_reducible exact impl_BodyOf.mono _ _ _)
      | (with_reducible exact impl_CoreOf.mono _ _)
      | (with_reducible exact impl_IsMatched.mono _ _)
      | (with_reducible exact impl_PartnersOf.mono _ _)
      | (with_reducible exact impl_PendingOf.mono _ _)
      | (with_reducible exact impl_TurnWord.mono _ _)
      | (with_reducible exact spec_A2Word.mono _ _ _)
      | (with_reducible exact LeO.refl _)
      | (with_reducible exact LeO.none _)
      | (with_reducible refine LeO.ite ?_ ?_)
      | (with_reducible refine LeO.bind ?_ (fun _ => ?_))
      | exact ih0 _ _ _ _ _
      | exact ih1 _ _ _ _ _ _ _
      | exact ih2 _ _ _ _ _ _ _ _
      | exact ih3 _ _ _ _ _ _ _ _
      | exact ih4 _ _ _ _ _ _ _ _
      | exact ih5 _ _ _ _ _ _ _
      | exact ih6 _ _ _ _ _ _ _ _
      | exact impl_BodyOf.mono _ _ _
      | exact impl_CoreOf.mono _ _
      | exact impl_IsMatched.mono _ _
      | exact impl_PartnersOf.mono _ _
      | exact impl_PendingOf.mono _ _
      | exact impl_TurnWord.mono _ _
      | exact spec_A2Word.mono _ _ _
      | exact LeO.none _
      | refine LeO.ite ?_ ?_
      | refine LeO.bind ?_ (fun _ => ?_)
    · intro y0 y1 y2 y3 y4 y5 y6 y7
      unfold laws_FnMatching.j6
      repeat' first
      | (with_reducible exact ih0 _ _ _ _ _)
      | (with_reducible exact ih1 _ _ _ _ _ _ _)
      | (with_reducible exact ih2 _ _ _ _ _ _ _ _)
      | (with_reducible exact ih3 _ _ _ _ _ _ _ _)
      | (with_reducible exact ih4 _ _ _ _ _ _ _ _)
      | (with_reducible exact ih5 _ _ _ _ _ _ _)
      | (with_reducible exact ih6 _ _ _ _ _ _ _ _)
      | (with_reducible exact impl_BodyOf.mono _ _ _)
      | (with_reducible exact impl_CoreOf.mono _ _)
      | (with_reducible exact impl_IsMatched.mono _ _)
      | (with_reducible exact impl_PartnersOf.mono _ _)
      | (with_reducible exact impl_PendingOf.mono _ _)
      | (with_reducible exact impl_TurnWord.mono _ _)
      | (with_reducible exact spec_A2Word.mono _ _ _)
      | (with_reducible exact LeO.refl _)
      | (with_reducible exact LeO.none _)
      | (with_reducible refine LeO.ite ?_ ?_)
      | (with_reducible refine LeO.bind ?_ (fun _ => ?_))
      | exact ih0 _ _ _ _ _
      | exact ih1 _ _ _ _ _ _ _
      | exact ih2 _ _ _ _ _ _ _ _
      | exact ih3 _ _ _ _ _ _ _ _
      | exact ih4 _ _ _ _ _ _ _ _
      | exact ih5 _ _ _ _ _ _ _
      | exact ih6 _ _ _ _ _ _ _ _
      | exact impl_BodyOf.mono _ _ _
      | exact impl_CoreOf.mono _ _
      | exact impl_IsMatched.mono _ _
      | exact impl_PartnersOf.mono _ _
      | exact impl_PendingOf.mono _ _
      | exact impl_TurnWord.mono _ _
      | exact spec_A2Word.mono _ _ _
      | exact LeO.none _
      | refine LeO.ite ?_ ?_
      | refine LeO.bind ?_ (fun _ => ?_)
theorem laws_FnMatching.mono : ∀ a0 a1 k, LeO (laws_FnMatching.f k a0 a1) (laws_FnMatching.f (k + 1) a0 a1) := by
  intro a0 a1 k
  obtain ⟨ih0, ih1, ih2, ih3, ih4, ih5, ih6⟩ := laws_FnMatching.mono_l k
  unfold laws_FnMatching.f
  repeat' first
      | (with_reducible exact ih0 _ _ _ _ _)
      | (with_reducible exact ih1 _ _ _ _ _ _ _)
      | (with_reducible exact ih2 _ _ _ _ _ _ _ _)
      | (with_reducible exact ih3 _ _ _ _ _ _ _ _)
      | (with_reducible exact ih4 _ _ _ _ _ _ _ _)
      | (with_reducible exact ih5 _ _ _ _ _ _ _)
      | (with_reducible exact ih6 _ _ _ _ _ _ _ _)
      | (with_reducible exact impl_BodyOf.mono _ _ _)
      | (with_reducible exact impl_CoreOf.mono _ _)
      | (with_reducible exact impl_IsMatched.mono _ _)
      | (with_reducible exact impl_PartnersOf.mono _ _)
      | (with_reducible exact impl_PendingOf.mono _ _)
      | (with_reducible exact impl_TurnWord.mono _ _)
      | (with_reducible exact spec_A2Word.mono _ _ _)
      | (with_reducible exact LeO.refl _)
      | (with_reducible exact LeO.none _)
      | (with_reducible refine LeO.ite ?_ ?_)
      | (with_reducible refine LeO.bind ?_ (fun _ => ?_))
      | exact ih0 _ _ _ _ _
      | exact ih1 _ _ _ _ _ _ _
      | exact ih2 _ _ _ _ _ _ _ _
      | exact ih3 _ _ _ _ _ _ _ _
      | exact ih4 _ _ _ _ _ _ _ _
      | exact ih5 _ _ _ _ _ _ _
      | exact ih6 _ _ _ _ _ _ _ _
      | exact impl_BodyOf.mono _ _ _
      | exact impl_CoreOf.mono _ _
      | exact impl_IsMatched.mono _ _
      | exact impl_PartnersOf.mono _ _
      | exact impl_PendingOf.mono _ _
      | exact impl_TurnWord.mono _ _
      | exact spec_A2Word.mono _ _ _
      | exact LeO.none _
      | refine LeO.ite ?_ ?_
      | refine LeO.bind ?_ (fun _ => ?_)
set_option maxHeartbeats 80000000 in
set_option maxRecDepth 100000 in
theorem laws_FnMatching.calls (k : Nat) (A0 : Option Addr) (c0 : Nat) (l0 : List Int) (A1 : Option Addr) (c1 : Nat) (l1 : List Int) (r : Bool) (w : World) (hr0 : Kd.C (Kd.int .u8) w A0 l0.length l0) (hc0 : l0.length ≤ c0) (hr1 : Kd.C (Kd.int .u8) w A1 l1.length l1) (hc1 : l1.length ≤ c1) (h : laws_FnMatching.f k l0 l1 = some r) :
    Calls Try.prog 6 #[.slice A0 l0.length c0, .slice A1 l1.length c1] w fun e w' => e = .returned (.bool r) ∧ Below w.heap.size w w' := by
  have HR0 := Aside0.mk hr0
  have HC0 := Aside0.mk hc0
  clear hr0 hc0
  have HR1 := Aside0.mk hr1
  have HC1 := Aside0.mk hc1
  clear hr1 hc1
  have HB := Aside0.mk (Below.refl w.heap.size w)
  have H : ((laws_a2Long.f l0 l1).bind fun t406 => (if t406 = true then (some true) else ((spec_A2Word.f k l0 16).bind fun t407 => ((impl_PartnersOf.f k t407).bind fun bt408 => ((impl_TurnWord.f k t407).bind fun bt412 => ((impl_PartnersOf.f k bt412.1).bind fun bt414 => ((impl_TurnWord.f k bt412.1).bind fun bt418 => ((impl_PendingOf.f k t407).bind fun bt420 => ((impl_CoreOf.f k t407).bind fun bt423 => ((impl_IsMatched.f k t407).bind fun bt425 => (if bt408.2 = 0 then (if bt412.2 = 0 then (if bt414.2 = 0 then (if bt418.2 = 0 then (if bt420.2.2 = 0 then (if bt423.2 = 0 then (if bt425.2 = 0 then (if (bt408.1.length : Int) = (t407.size : Int) then (if (bt414.1.length : Int) = (t407.size : Int) then (if (bt412.1.size : Int) = (t407.size : Int) then (if bt418.1.toList = t407.toList then (if (bt425.1 != ((wrap64 (bt420.1 + bt420.2.1)) == 0)) = true then (laws_FnMatching.j0 k t407 bt408.1 bt414.1 bt423.1 true) else (laws_FnMatching.j0 k t407 bt408.1 bt414.1 bt423.1 ((bt423.1.size : Int) != (wrap64 (bt420.1 + bt420.2.1))))) else (laws_FnMatching.j0 k t407 bt408.1 bt414.1 bt423.1 true)) else (laws_FnMatching.j0 k t407 bt408.1 bt414.1 bt423.1 true)) else (laws_FnMatching.j0 k t407 bt408.1 bt414.1 bt423.1 true)) else (laws_FnMatching.j0 k t407 bt408.1 bt414.1 bt423.1 true)) else (laws_FnMatching.j0 k t407 bt408.1 bt414.1 bt423.1 true)) else (laws_FnMatching.j0 k t407 bt408.1 bt414.1 bt423.1 true)) else (laws_FnMatching.j0 k t407 bt408.1 bt414.1 bt423.1 true)) else (laws_FnMatching.j0 k t407 bt408.1 bt414.1 bt423.1 true)) else (laws_FnMatching.j0 k t407 bt408.1 bt414.1 bt423.1 true)) else (laws_FnMatching.j0 k t407 bt408.1 bt414.1 bt423.1 true)) else (laws_FnMatching.j0 k t407 bt408.1 bt414.1 bt423.1 true)))))))))))) = some r := h
  clear h
  replace H := Option.bind_eq_some_iff.mp H
  obtain ⟨t406, A30, H⟩ := H
  replace H : (if t406 = true then (some true) else ((spec_A2Word.f k l0 16).bind fun t407 => ((impl_PartnersOf.f k t407).bind fun bt408 => ((impl_TurnWord.f k t407).bind fun bt412 => ((impl_PartnersOf.f k bt412.1).bind fun bt414 => ((impl_TurnWord.f k bt412.1).bind fun bt418 => ((impl_PendingOf.f k t407).bind fun bt420 => ((impl_CoreOf.f k t407).bind fun bt423 => ((impl_IsMatched.f k t407).bind fun bt425 => (if bt408.2 = 0 then (if bt412.2 = 0 then (if bt414.2 = 0 then (if bt418.2 = 0 then (if bt420.2.2 = 0 then (if bt423.2 = 0 then (if bt425.2 = 0 then (if (bt408.1.length : Int) = (t407.size : Int) then (if (bt414.1.length : Int) = (t407.size : Int) then (if (bt412.1.size : Int) = (t407.size : Int) then (if bt418.1.toList = t407.toList then (if (bt425.1 != ((wrap64 (bt420.1 + bt420.2.1)) == 0)) = true then (laws_FnMatching.j0 k t407 bt408.1 bt414.1 bt423.1 true) else (laws_FnMatching.j0 k t407 bt408.1 bt414.1 bt423.1 ((bt423.1.size : Int) != (wrap64 (bt420.1 + bt420.2.1))))) else (laws_FnMatching.j0 k t407 bt408.1 bt414.1 bt423.1 true)) else (laws_FnMatching.j0 k t407 bt408.1 bt414.1 bt423.1 true)) else (laws_FnMatching.j0 k t407 bt408.1 bt414.1 bt423.1 true)) else (laws_FnMatching.j0 k t407 bt408.1 bt414.1 bt423.1 true)) else (laws_FnMatching.j0 k t407 bt408.1 bt414.1 bt423.1 true)) else (laws_FnMatching.j0 k t407 bt408.1 bt414.1 bt423.1 true)) else (laws_FnMatching.j0 k t407 bt408.1 bt414.1 bt423.1 true)) else (laws_FnMatching.j0 k t407 bt408.1 bt414.1 bt423.1 true)) else (laws_FnMatching.j0 k t407 bt408.1 bt414.1 bt423.1 true)) else (laws_FnMatching.j0 k t407 bt408.1 bt414.1 bt423.1 true)) else (laws_FnMatching.j0 k t407 bt408.1 bt414.1 bt423.1 true))))))))))) = some r := H
  have A3 := Aside0.mk A30
  clear A30
  by_cases c4 : t406 = true
  · subst c4
    have H1 : (some true) = some r := by rw [if_pos rfl] at H; exact H
    clear H
    have H := H1
    clear H1
    obtain rfl := Option.some.inj H
    go_enter Try.func6, Try.ntmps6
    go_wp2_with (first | (go_at_call 14; (with_reducible refine (laws_a2Long.calls _ _ l0 _ _ l1 true _ ?side1 ?side2 ?side3 ?side4 A3.out).mono ?_); (case side1 => repeat (first | exact HR0.out | (with_reducible refine Kd.C_alloc ?_ _) | (with_reducible refine Kd.C_drewN ?_ _) | (with_reducible refine Kd.C_drew ?_))); (case side2 => exact HC0.out); (case side3 => repeat (first | exact HR1.out | (with_reducible refine Kd.C_alloc ?_ _) | (with_reducible refine Kd.C_drewN ?_ _) | (with_reducible refine Kd.C_drew ?_))); (case side4 => exact HC1.out); rintro e w' ⟨rfl, ⟨nd, rfl⟩⟩; (try first | exact ⟨rfl, _, World.drewN_drewN _ _ _⟩ | exact ⟨rfl, _, Eq.trans (World.drewN_drewN _ _ _) (congrArg (World.drewN _) (Nat.add_assoc _ _ _))⟩)))
    repeat (go_quiet (first | (go_at_call 14; (with_reducible refine (laws_a2Long.calls _ _ l0 _ _ l1 true _ ?side1 ?side2 ?side3 ?side4 A3.out).mono ?_); (case side1 => repeat (first | exact HR0.out | (with_reducible refine Kd.C_alloc ?_ _) | (with_reducible refine Kd.C_drewN ?_ _) | (with_reducible refine Kd.C_drew ?_))); (case side2 => exact HC0.out); (case side3 => repeat (first | exact HR1.out | (with_reducible refine Kd.C_alloc ?_ _) | (with_reducible refine Kd.C_drewN ?_ _) | (with_reducible refine Kd.C_drew ?_))); (case side4 => exact HC1.out); rintro e w' ⟨rfl, ⟨nd, rfl⟩⟩; (try first | exact ⟨rfl, _, World.drewN_drewN _ _ _⟩ | exact ⟨rfl, _, Eq.trans (World.drewN_drewN _ _ _) (congrArg (World.drewN _) (Nat.add_assoc _ _ _))⟩))); try go_wp2_with (first | (go_at_call 14; (with_reducible refine (laws_a2Long.calls _ _ l0 _ _ l1 true _ ?side1 ?side2 ?side3 ?side4 A3.out).mono ?_); (case side1 => repeat (first | exact HR0.out | (with_reducible refine Kd.C_alloc ?_ _) | (with_reducible refine Kd.C_drewN ?_ _) | (with_reducible refine Kd.C_drew ?_))); (case side2 => exact HC0.out); (case side3 => repeat (first | exact HR1.out | (with_reducible refine Kd.C_alloc ?_ _) | (with_reducible refine Kd.C_drewN ?_ _) | (with_reducible refine Kd.C_drew ?_))); (case side4 => exact HC1.out); rintro e w' ⟨rfl, ⟨nd, rfl⟩⟩; (try first | exact ⟨rfl, _, World.drewN_drewN _ _ _⟩ | exact ⟨rfl, _, Eq.trans (World.drewN_drewN _ _ _) (congrArg (World.drewN _) (Nat.add_assoc _ _ _))⟩))))
    go_ret
    exact ⟨by first | rfl | (simp [errW_none, errW_some] <;> rfl) | (simp [*, errW_none, errW_some] <;> rfl), by repeat (first | (with_reducible first | exact HB.out | apply below_alloc | apply pw_below_drewN | apply below_drew1) | exact HB.out)⟩
  · as_aux_lemma =>
    replace c4 := Bool.eq_false_iff.mpr c4
    subst c4
    have H1 : ((spec_A2Word.f k l0 16).bind fun t407 => ((impl_PartnersOf.f k t407).bind fun bt408 => ((impl_TurnWord.f k t407).bind fun bt412 => ((impl_PartnersOf.f k bt412.1).bind fun bt414 => ((impl_TurnWord.f k bt412.1).bind fun bt418 => ((impl_PendingOf.f k t407).bind fun bt420 => ((impl_CoreOf.f k t407).bind fun bt423 => ((impl_IsMatched.f k t407).bind fun bt425 => (if bt408.2 = 0 then (if bt412.2 = 0 then (if bt414.2 = 0 then (if bt418.2 = 0 then (if bt420.2.2 = 0 then (if bt423.2 = 0 then (if bt425.2 = 0 then (if (bt408.1.length : Int) = (t407.size : Int) then (if (bt414.1.length : Int) = (t407.size : Int) then (if (bt412.1.size : Int) = (t407.size : Int) then (if bt418.1.toList = t407.toList then (if (bt425.1 != ((wrap64 (bt420.1 + bt420.2.1)) == 0)) = true then (laws_FnMatching.j0 k t407 bt408.1 bt414.1 bt423.1 true) else (laws_FnMatching.j0 k t407 bt408.1 bt414.1 bt423.1 ((bt423.1.size : Int) != (wrap64 (bt420.1 + bt420.2.1))))) else (laws_FnMatching.j0 k t407 bt408.1 bt414.1 bt423.1 true)) else (laws_FnMatching.j0 k t407 bt408.1 bt414.1 bt423.1 true)) else (laws_FnMatching.j0 k t407 bt408.1 bt414.1 bt423.1 true)) else (laws_FnMatching.j0 k t407 bt408.1 bt414.1 bt423.1 true)) else (laws_FnMatching.j0 k t407 bt408.1 bt414.1 bt423.1 true)) else (laws_FnMatching.j0 k t407 bt408.1 bt414.1 bt423.1 true)) else (laws_FnMatching.j0 k t407 bt408.1 bt414.1 bt423.1 true)) else (laws_FnMatching.j0 k t407 bt408.1 bt414.1 bt423.1 true)) else (laws_FnMatching.j0 k t407 bt408.1 bt414.1 bt423.1 true)) else (laws_FnMatching.j0 k t407 bt408.1 bt414.1 bt423.1 true)) else (laws_FnMatching.j0 k t407 bt408.1 bt414.1 bt423.1 true)))))))))) = some r := by rw [if_neg (show ¬ (false = true) by decide)] at H; exact H
    clear H
    have H := H1
    clear H1
    replace H := Option.bind_eq_some_iff.mp H
    obtain ⟨t407, A50, H⟩ := H
    replace H : ((impl_PartnersOf.f k t407).bind fun bt408 => ((impl_TurnWord.f k t407).bind fun bt412 => ((impl_PartnersOf.f k bt412.1).bind fun bt414 => ((impl_TurnWord.f k bt412.1).bind fun bt418 => ((impl_PendingOf.f k t407).bind fun bt420 => ((impl_CoreOf.f k t407).bind fun bt423 => ((impl_IsMatched.f k t407).bind fun bt425 => (if bt408.2 = 0 then (if bt412.2 = 0 then (if bt414.2 = 0 then (if bt418.2 = 0 then (if bt420.2.2 = 0 then (if bt423.2 = 0 then (if bt425.2 = 0 then (if (bt408.1.length : Int) = (t407.size : Int) then (if (bt414.1.length : Int) = (t407.size : Int) then (if (bt412.1.size : Int) = (t407.size : Int) then (if bt418.1.toList = t407.toList then (if (bt425.1 != ((wrap64 (bt420.1 + bt420.2.1)) == 0)) = true then (laws_FnMatching.j0 k t407 bt408.1 bt414.1 bt423.1 true) else (laws_FnMatching.j0 k t407 bt408.1 bt414.1 bt423.1 ((bt423.1.size : Int) != (wrap64 (bt420.1 + bt420.2.1))))) else (laws_FnMatching.j0 k t407 bt408.1 bt414.1 bt423.1 true)) else (laws_FnMatching.j0 k t407 bt408.1 bt414.1 bt423.1 true)) else (laws_FnMatching.j0 k t407 bt408.1 bt414.1 bt423.1 true)) else (laws_FnMatching.j0 k t407 bt408.1 bt414.1 bt423.1 true)) else (laws_FnMatching.j0 k t407 bt408.1 bt414.1 bt423.1 true)) else (laws_FnMatching.j0 k t407 bt408.1 bt414.1 bt423.1 true)) else (laws_FnMatching.j0 k t407 bt408.1 bt414.1 bt423.1 true)) else (laws_FnMatching.j0 k t407 bt408.1 bt414.1 bt423.1 true)) else (laws_FnMatching.j0 k t407 bt408.1 bt414.1 bt423.1 true)) else (laws_FnMatching.j0 k t407 bt408.1 bt414.1 bt423.1 true)) else (laws_FnMatching.j0 k t407 bt408.1 bt414.1 bt423.1 true))))))))) = some r := H
    have A5 := Aside0.mk A50
    clear A50
    replace H := Option.bind_eq_some_iff.mp H
    obtain ⟨⟨t408, t409⟩, A60, H⟩ := H
    replace H : ((impl_TurnWord.f k t407).bind fun bt412 => ((impl_PartnersOf.f k bt412.1).bind fun bt414 => ((impl_TurnWord.f k bt412.1).bind fun bt418 => ((impl_PendingOf.f k t407).bind fun bt420 => ((impl_CoreOf.f k t407).bind fun bt423 => ((impl_IsMatched.f k t407).bind fun bt425 => (if t409 = 0 then (if bt412.2 = 0 then (if bt414.2 = 0 then (if bt418.2 = 0 then (if bt420.2.2 = 0 then (if bt423.2 = 0 then (if bt425.2 = 0 then (if (t408.length : Int) = (t407.size : Int) then (if (bt414.1.length : Int) = (t407.size : Int) then (if (bt412.1.size : Int) = (t407.size : Int) then (if bt418.1.toList = t407.toList then (if (bt425.1 != ((wrap64 (bt420.1 + bt420.2.1)) == 0)) = true then (laws_FnMatching.j0 k t407 t408 bt414.1 bt423.1 true) else (laws_FnMatching.j0 k t407 t408 bt414.1 bt423.1 ((bt423.1.size : Int) != (wrap64 (bt420.1 + bt420.2.1))))) else (laws_FnMatching.j0 k t407 t408 bt414.1 bt423.1 true)) else (laws_FnMatching.j0 k t407 t408 bt414.1 bt423.1 true)) else (laws_FnMatching.j0 k t407 t408 bt414.1 bt423.1 true)) else (laws_FnMatching.j0 k t407 t408 bt414.1 bt423.1 true)) else (laws_FnMatching.j0 k t407 t408 bt414.1 bt423.1 true)) else (laws_FnMatching.j0 k t407 t408 bt414.1 bt423.1 true)) else (laws_FnMatching.j0 k t407 t408 bt414.1 bt423.1 true)) else (laws_FnMatching.j0 k t407 t408 bt414.1 bt423.1 true)) else (laws_FnMatching.j0 k t407 t408 bt414.1 bt423.1 true)) else (laws_FnMatching.j0 k t407 t408 bt414.1 bt423.1 true)) else (laws_FnMatching.j0 k t407 t408 bt414.1 bt423.1 true)))))))) = some r := H
    have A6 := Aside0.mk A60
    clear A60
    replace H := Option.bind_eq_some_iff.mp H
    obtain ⟨⟨t412, t413⟩, A70, H⟩ := H
    replace H : ((impl_PartnersOf.f k t412).bind fun bt414 => ((impl_TurnWord.f k t412).bind fun bt418 => ((impl_PendingOf.f k t407).bind fun bt420 => ((impl_CoreOf.f k t407).bind fun bt423 => ((impl_IsMatched.f k t407).bind fun bt425 => (if t409 = 0 then (if t413 = 0 then (if bt414.2 = 0 then (if bt418.2 = 0 then (if bt420.2.2 = 0 then (if bt423.2 = 0 then (if bt425.2 = 0 then (if (t408.length : Int) = (t407.size : Int) then (if (bt414.1.length : Int) = (t407.size : Int) then (if (t412.size : Int) = (t407.size : Int) then (if bt418.1.toList = t407.toList then (if (bt425.1 != ((wrap64 (bt420.1 + bt420.2.1)) == 0)) = true then (laws_FnMatching.j0 k t407 t408 bt414.1 bt423.1 true) else (laws_FnMatching.j0 k t407 t408 bt414.1 bt423.1 ((bt423.1.size : Int) != (wrap64 (bt420.1 + bt420.2.1))))) else (laws_FnMatching.j0 k t407 t408 bt414.1 bt423.1 true)) else (laws_FnMatching.j0 k t407 t408 bt414.1 bt423.1 true)) else (laws_FnMatching.j0 k t407 t408 bt414.1 bt423.1 true)) else (laws_FnMatching.j0 k t407 t408 bt414.1 bt423.1 true)) else (laws_FnMatching.j0 k t407 t408 bt414.1 bt423.1 true)) else (laws_FnMatching.j0 k t407 t408 bt414.1 bt423.1 true)) else (laws_FnMatching.j0 k t407 t408 bt414.1 bt423.1 true)) else (laws_FnMatching.j0 k t407 t408 bt414.1 bt423.1 true)) else (laws_FnMatching.j0 k t407 t408 bt414.1 bt423.1 true)) else (laws_FnMatching.j0 k t407 t408 bt414.1 bt423.1 true)) else (laws_FnMatching.j0 k t407 t408 bt414.1 bt423.1 true))))))) = some r := H
    have A7 := Aside0.mk A70
    clear A70
    replace H := Option.bind_eq_some_iff.mp H
    obtain ⟨⟨t414, t415⟩, A80, H⟩ := H
    replace H : ((impl_TurnWord.f k t412).bind fun bt418 => ((impl_PendingOf.f k t407).bind fun bt420 => ((impl_CoreOf.f k t407).bind fun bt423 => ((impl_IsMatched.f k t407).bind fun bt425 => (if t409 = 0 then (if t413 = 0 then (if t415 = 0 then (if bt418.2 = 0 then (if bt420.2.2 = 0 then (if bt423.2 = 0 then (if bt425.2 = 0 then (if (t408.length : Int) = (t407.size : Int) then (if (t414.length : Int) = (t407.size : Int) then (if (t412.size : Int) = (t407.size : Int) then (if bt418.1.toList = t407.toList then (if (bt425.1 != ((wrap64 (bt420.1 + bt420.2.1)) == 0)) = true then (laws_FnMatching.j0 k t407 t408 t414 bt423.1 true) else (laws_FnMatching.j0 k t407 t408 t414 bt423.1 ((bt423.1.size : Int) != (wrap64 (bt420.1 + bt420.2.1))))) else (laws_FnMatching.j0 k t407 t408 t414 bt423.1 true)) else (laws_FnMatching.j0 k t407 t408 t414 bt423.1 true)) else (laws_FnMatching.j0 k t407 t408 t414 bt423.1 true)) else (laws_FnMatching.j0 k t407 t408 t414 bt423.1 true)) else (laws_FnMatching.j0 k t407 t408 t414 bt423.1 true)) else (laws_FnMatching.j0 k t407 t408 t414 bt423.1 true)) else (laws_FnMatching.j0 k t407 t408 t414 bt423.1 true)) else (laws_FnMatching.j0 k t407 t408 t414 bt423.1 true)) else (laws_FnMatching.j0 k t407 t408 t414 bt423.1 true)) else (laws_FnMatching.j0 k t407 t408 t414 bt423.1 true)) else (laws_FnMatching.j0 k t407 t408 t414 bt423.1 true)))))) = some r := H
    have A8 := Aside0.mk A80
    clear A80
    replace H := Option.bind_eq_some_iff.mp H
    obtain ⟨⟨t418, t419⟩, A90, H⟩ := H
    replace H : ((impl_PendingOf.f k t407).bind fun bt420 => ((impl_CoreOf.f k t407).bind fun bt423 => ((impl_IsMatched.f k t407).bind fun bt425 => (if t409 = 0 then (if t413 = 0 then (if t415 = 0 then (if t419 = 0 then (if bt420.2.2 = 0 then (if bt423.2 = 0 then (if bt425.2 = 0 then (if (t408.length : Int) = (t407.size : Int) then (if (t414.length : Int) = (t407.size : Int) then (if (t412.size : Int) = (t407.size : Int) then (if t418.toList = t407.toList then (if (bt425.1 != ((wrap64 (bt420.1 + bt420.2.1)) == 0)) = true then (laws_FnMatching.j0 k t407 t408 t414 bt423.1 true) else (laws_FnMatching.j0 k t407 t408 t414 bt423.1 ((bt423.1.size : Int) != (wrap64 (bt420.1 + bt420.2.1))))) else (laws_FnMatching.j0 k t407 t408 t414 bt423.1 true)) else (laws_FnMatching.j0 k t407 t408 t414 bt423.1 true)) else (laws_FnMatching.j0 k t407 t408 t414 bt423.1 true)) else (laws_FnMatching.j0 k t407 t408 t414 bt423.1 true)) else (laws_FnMatching.j0 k t407 t408 t414 bt423.1 true)) else (laws_FnMatching.j0 k t407 t408 t414 bt423.1 true)) else (laws_FnMatching.j0 k t407 t408 t414 bt423.1 true)) else (laws_FnMatching.j0 k t407 t408 t414 bt423.1 true)) else (laws_FnMatching.j0 k t407 t408 t414 bt423.1 true)) else (laws_FnMatching.j0 k t407 t408 t414 bt423.1 true)) else (laws_FnMatching.j0 k t407 t408 t414 bt423.1 true))))) = some r := H
    have A9 := Aside0.mk A90
    clear A90
    replace H := Option.bind_eq_some_iff.mp H
    obtain ⟨⟨t420, t421, t422⟩, A100, H⟩ := H
    replace H : ((impl_CoreOf.f k t407).bind fun bt423 => ((impl_IsMatched.f k t407).bind fun bt425 => (if t409 = 0 then (if t413 = 0 then (if t415 = 0 then (if t419 = 0 then (if t422 = 0 then (if bt423.2 = 0 then (if bt425.2 = 0 then (if (t408.length : Int) = (t407.size : Int) then (if (t414.length : Int) = (t407.size : Int) then (if (t412.size : Int) = (t407.size : Int) then (if t418.toList = t407.toList then (if (bt425.1 != ((wrap64 (t420 + t421)) == 0)) = true then (laws_FnMatching.j0 k t407 t408 t414 bt423.1 true) else (laws_FnMatching.j0 k t407 t408 t414 bt423.1 ((bt423.1.size : Int) != (wrap64 (t420 + t421))))) else (laws_FnMatching.j0 k t407 t408 t414 bt423.1 true)) else (laws_FnMatching.j0 k t407 t408 t414 bt423.1 true)) else (laws_FnMatching.j0 k t407 t408 t414 bt423.1 true)) else (laws_FnMatching.j0 k t407 t408 t414 bt423.1 true)) else (laws_FnMatching.j0 k t407 t408 t414 bt423.1 true)) else (laws_FnMatching.j0 k t407 t408 t414 bt423.1 true)) else (laws_FnMatching.j0 k t407 t408 t414 bt423.1 true)) else (laws_FnMatching.j0 k t407 t408 t414 bt423.1 true)) else (laws_FnMatching.j0 k t407 t408 t414 bt423.1 true)) else (laws_FnMatching.j0 k t407 t408 t414 bt423.1 true)) else (laws_FnMatching.j0 k t407 t408 t414 bt423.1 true)))) = some r := H
    have A10 := Aside0.mk A100
    clear A100
    replace H := Option.bind_eq_some_iff.mp H
    obtain ⟨⟨t423, t424⟩, A110, H⟩ := H
    replace H : ((impl_IsMatched.f k t407).bind fun bt425 => (if t409 = 0 then (if t413 = 0 then (if t415 = 0 then (if t419 = 0 then (if t422 = 0 then (if t424 = 0 then (if bt425.2 = 0 then (if (t408.length : Int) = (t407.size : Int) then (if (t414.length : Int) = (t407.size : Int) then (if (t412.size : Int) = (t407.size : Int) then (if t418.toList = t407.toList then (if (bt425.1 != ((wrap64 (t420 + t421)) == 0)) = true then (laws_FnMatching.j0 k t407 t408 t414 t423 true) else (laws_FnMatching.j0 k t407 t408 t414 t423 ((t423.size : Int) != (wrap64 (t420 + t421))))) else (laws_FnMatching.j0 k t407 t408 t414 t423 true)) else (laws_FnMatching.j0 k t407 t408 t414 t423 true)) else (laws_FnMatching.j0 k t407 t408 t414 t423 true)) else (laws_FnMatching.j0 k t407 t408 t414 t423 true)) else (laws_FnMatching.j0 k t407 t408 t414 t423 true)) else (laws_FnMatching.j0 k t407 t408 t414 t423 true)) else (laws_FnMatching.j0 k t407 t408 t414 t423 true)) else (laws_FnMatching.j0 k t407 t408 t414 t423 true)) else (laws_FnMatching.j0 k t407 t408 t414 t423 true)) else (laws_FnMatching.j0 k t407 t408 t414 t423 true)) else (laws_FnMatching.j0 k t407 t408 t414 t423 true))) = some r := H
    have A11 := Aside0.mk A110
    clear A110
    replace H := Option.bind_eq_some_iff.mp H
    obtain ⟨⟨t425, t426⟩, A120, H⟩ := H
    replace H : (if t409 = 0 then (if t413 = 0 then (if t415 = 0 then (if t419 = 0 then (if t422 = 0 then (if t424 = 0 then (if t426 = 0 then (if (t408.length : Int) = (t407.size : Int) then (if (t414.length : Int) = (t407.size : Int) then (if (t412.size : Int) = (t407.size : Int) then (if t418.toList = t407.toList then (if (t425 != ((wrap64 (t420 + t421)) == 0)) = true then (laws_FnMatching.j0 k t407 t408 t414 t423 true) else (laws_FnMatching.j0 k t407 t408 t414 t423 ((t423.size : Int) != (wrap64 (t420 + t421))))) else (laws_FnMatching.j0 k t407 t408 t414 t423 true)) else (laws_FnMatching.j0 k t407 t408 t414 t423 true)) else (laws_FnMatching.j0 k t407 t408 t414 t423 true)) else (laws_FnMatching.j0 k t407 t408 t414 t423 true)) else (laws_FnMatching.j0 k t407 t408 t414 t423 true)) else (laws_FnMatching.j0 k t407 t408 t414 t423 true)) else (laws_FnMatching.j0 k t407 t408 t414 t423 true)) else (laws_FnMatching.j0 k t407 t408 t414 t423 true)) else (laws_FnMatching.j0 k t407 t408 t414 t423 true)) else (laws_FnMatching.j0 k t407 t408 t414 t423 true)) else (laws_FnMatching.j0 k t407 t408 t414 t423 true)) = some r := H
    have A12 := Aside0.mk A120
    clear A120
    have HC13 := Aside0.mk H
    clear H
    go_enter Try.func6, Try.ntmps6
    go_upto_region 11 with (first | (go_at_call 14; (with_reducible refine (laws_a2Long.calls _ _ l0 _ _ l1 false _ ?side1 ?side2 ?side3 ?side4 A3.out).mono ?_); (case side1 => repeat (first | exact HR0.out | (with_reducible refine Kd.C_alloc ?_ _) | (with_reducible refine Kd.C_drewN ?_ _) | (with_reducible refine Kd.C_drew ?_))); (case side2 => exact HC0.out); (case side3 => repeat (first | exact HR1.out | (with_reducible refine Kd.C_alloc ?_ _) | (with_reducible refine Kd.C_drewN ?_ _) | (with_reducible refine Kd.C_drew ?_))); (case side4 => exact HC1.out); rintro e w' ⟨rfl, ⟨nd, rfl⟩⟩; (try first | exact ⟨rfl, _, World.drewN_drewN _ _ _⟩ | exact ⟨rfl, _, Eq.trans (World.drewN_drewN _ _ _) (congrArg (World.drewN _) (Nat.add_assoc _ _ _))⟩)) | (go_at_call 15; (with_reducible refine (spec_A2Word.calls k _ _ l0 16 t407 _ ?side1 ?side2 A5.out).mono ?_); (case side1 => repeat (first | exact HR0.out | (with_reducible refine Kd.C_alloc ?_ _) | (with_reducible refine Kd.C_drewN ?_ _) | (with_reducible refine Kd.C_drew ?_))); (case side2 => exact HC0.out); rintro e w14 ⟨rfl, hb⟩; have n0_ := Aside0.mk (below_step (by repeat (first | (with_reducible first | exact HB.out | apply below_alloc | apply pw_below_drewN | apply below_drew1) | exact HB.out)) hb); clear HB; have HB := n0_; clear n0_; (try clear hb); (try clear hb2); (try clear hk); (try clear hi)) | (go_at_call 16; (with_reducible refine (impl_PartnersOf.calls k t407 t408 t409 _ A6.out).mono ?_); rintro e w15 ⟨v410, rfl, ho0, hb⟩; have n0_ := Aside0.mk (Kd.R_lower ho0 (below_size (by repeat (first | (with_reducible first | exact HB.out | apply below_alloc | apply pw_below_drewN | apply below_drew1) | exact HB.out)))); have n1_ := Aside0.mk (below_step (by repeat (first | (with_reducible first | exact HB.out | apply below_alloc | apply pw_below_drewN | apply below_drew1) | exact HB.out)) hb); clear HB; have HO411 := n0_; have HB := n1_; clear n0_ n1_; (try clear hb); (try clear hb2); (try clear hk); (try clear hi); (try clear ho0)) | (go_at_call 11; (with_reducible refine (impl_TurnWord.calls k t407 t412 t413 _ A7.out).mono ?_); rintro e w16 ⟨rfl, hb⟩; have n0_ := Aside0.mk (Kd.R_below (by (with_reducible repeat (first | apply Kd.R_alloc | apply Kd.R_drewN | apply Kd.R_drew)); exact HO411.out) hb); have n1_ := Aside0.mk (below_step (by repeat (first | (with_reducible first | exact HB.out | apply below_alloc | apply pw_below_drewN | apply below_drew1) | exact HB.out)) hb); clear HO411; clear HB; have HO411 := n0_; have HB := n1_; clear n0_ n1_; (try clear hb); (try clear hb2); (try clear hk); (try clear hi)) | (go_at_call 16; (with_reducible refine (impl_PartnersOf.calls k t412 t414 t415 _ A8.out).mono ?_); rintro e w17 ⟨v416, rfl, ho0, hb⟩; have n0_ := Aside0.mk (Kd.R_elder' (by (with_reducible repeat (first | apply Kd.R_alloc | apply Kd.R_drewN | apply Kd.R_drew)); exact HO411.out) (Kd.R_base ho0) hb); have n1_ := Aside0.mk (Kd.R_lower (Kd.R_new' ho0 (Kd.R_lt (by (with_reducible repeat (first | apply Kd.R_alloc | apply Kd.R_drewN | apply Kd.R_drew)); exact HO411.out))) (below_size (by repeat (first | (with_reducible first | exact HB.out | apply below_alloc | apply pw_below_drewN | apply below_drew1) | exact HB.out)))); have n2_ := Aside0.mk (below_step (by repeat (first | (with_reducible first | exact HB.out | apply below_alloc | apply pw_below_drewN | apply below_drew1) | exact HB.out)) hb); clear HO411; clear HB; have HO411 := n0_; have HO417 := n1_; have HB := n2_; clear n0_ n1_ n2_; (try clear hb); (try clear hb2); (try clear hk); (try clear hi); (try clear ho0)) | (go_at_call 11; (with_reducible refine (impl_TurnWord.calls k t412 t418 t419 _ A9.out).mono ?_); rintro e w18 ⟨rfl, hb⟩; have n0_ := Aside0.mk (Kd.R_below (by (with_reducible repeat (first | apply Kd.R_alloc | apply Kd.R_drewN | apply Kd.R_drew)); exact HO411.out) hb); have n1_ := Aside0.mk (Kd.R_below (by (with_reducible repeat (first | apply Kd.R_alloc | apply Kd.R_drewN | apply Kd.R_drew)); exact HO417.out) hb); have n2_ := Aside0.mk (below_step (by repeat (first | (with_reducible first | exact HB.out | apply below_alloc | apply pw_below_drewN | apply below_drew1) | exact HB.out)) hb); clear HO411; clear HO417; clear HB; have HO411 := n0_; have HO417 := n1_; have HB := n2_; clear n0_ n1_ n2_; (try clear hb); (try clear hb2); (try clear hk); (try clear hi)) | (go_at_call 17; (with_reducible refine (impl_PendingOf.calls k t407 t420 t421 t422 _ A10.out).mono ?_); rintro e w19 ⟨rfl, hb⟩; have n0_ := Aside0.mk (Kd.R_below (by (with_reducible repeat (first | apply Kd.R_alloc | apply Kd.R_drewN | apply Kd.R_drew)); exact HO411.out) hb); have n1_ := Aside0.mk (Kd.R_below (by (with_reducible repeat (first | apply Kd.R_alloc | apply Kd.R_drewN | apply Kd.R_drew)); exact HO417.out) hb); have n2_ := Aside0.mk (below_step (by repeat (first | (with_reducible first | exact HB.out | apply below_alloc | apply pw_below_drewN | apply below_drew1) | exact HB.out)) hb); clear HO411; clear HO417; clear HB; have HO411 := n0_; have HO417 := n1_; have HB := n2_; clear n0_ n1_ n2_; (try clear hb); (try clear hb2); (try clear hk); (try clear hi)) | (go_at_call 18; (with_reducible refine (impl_CoreOf.calls k t407 t423 t424 _ A11.out).mono ?_); rintro e w20 ⟨rfl, hb⟩; have n0_ := Aside0.mk (Kd.R_below (by (with_reducible repeat (first | apply Kd.R_alloc | apply Kd.R_drewN | apply Kd.R_drew)); exact HO411.out) hb); have n1_ := Aside0.mk (Kd.R_below (by (with_reducible repeat (first | apply Kd.R_alloc | apply Kd.R_drewN | apply Kd.R_drew)); exact HO417.out) hb); have n2_ := Aside0.mk (below_step (by repeat (first | (with_reducible first | exact HB.out | apply below_alloc | apply pw_below_drewN | apply below_drew1) | exact HB.out)) hb); clear HO411; clear HO417; clear HB; have HO411 := n0_; have HO417 := n1_; have HB := n2_; clear n0_ n1_ n2_; (try clear hb); (try clear hb2); (try clear hk); (try clear hi)) | (go_at_call 19; (with_reducible refine (impl_IsMatched.calls k t407 t425 t426 _ A12.out).mono ?_); rintro e w21 ⟨rfl, hb⟩; have n0_ := Aside0.mk (Kd.R_below (by (with_reducible repeat (first | apply Kd.R_alloc | apply Kd.R_drewN | apply Kd.R_drew)); exact HO411.out) hb); have n1_ := Aside0.mk (Kd.R_below (by (with_reducible repeat (first | apply Kd.R_alloc | apply Kd.R_drewN | apply Kd.R_drew)); exact HO417.out) hb); have n2_ := Aside0.mk (below_step (by repeat (first | (with_reducible first | exact HB.out | apply below_alloc | apply pw_below_drewN | apply below_drew1) | exact HB.out)) hb); clear HO411; clear HO417; clear HB; have HO411 := n0_; have HO417 := n1_; have HB := n2_; clear n0_ n1_ n2_; (try clear hb); (try clear hb2); (try clear hk); (try clear hi)))
    repeat (go_quiet (first | (go_at_call 14; (with_reducible refine (laws_a2Long.calls _ _ l0 _ _ l1 false _ ?side1 ?side2 ?side3 ?side4 A3.out).mono ?_); (case side1 => repeat (first | exact HR0.out | (with_reducible refine Kd.C_alloc ?_ _) | (with_reducible refine Kd.C_drewN ?_ _) | (with_reducible refine Kd.C_drew ?_))); (case side2 => exact HC0.out); (case side3 => repeat (first | exact HR1.out | (with_reducible refine Kd.C_alloc ?_ _) | (with_reducible refine Kd.C_drewN ?_ _) | (with_reducible refine Kd.C_drew ?_))); (case side4 => exact HC1.out); rintro e w' ⟨rfl, ⟨nd, rfl⟩⟩; (try first | exact ⟨rfl, _, World.drewN_drewN _ _ _⟩ | exact ⟨rfl, _, Eq.trans (World.drewN_drewN _ _ _) (congrArg (World.drewN _) (Nat.add_assoc _ _ _))⟩)) | (go_at_call 15; (with_reducible refine (spec_A2Word.calls k _ _ l0 16 t407 _ ?side1 ?side2 A5.out).mono ?_); (case side1 => repeat (first | exact HR0.out | (with_reducible refine Kd.C_alloc ?_ _) | (with_reducible refine Kd.C_drewN ?_ _) | (with_reducible refine Kd.C_drew ?_))); (case side2 => exact HC0.out); rintro e w14 ⟨rfl, hb⟩; have n0_ := Aside0.mk (below_step (by repeat (first | (with_reducible first | exact HB.out | apply below_alloc | apply pw_below_drewN | apply below_drew1) | exact HB.out)) hb); clear HB; have HB := n0_; clear n0_; (try clear hb); (try clear hb2); (try clear hk); (try clear hi)) | (go_at_call 16; (with_reducible refine (impl_PartnersOf.calls k t407 t408 t409 _ A6.out).mono ?_); rintro e w15 ⟨v410, rfl, ho0, hb⟩; have n0_ := Aside0.mk (Kd.R_lower ho0 (below_size (by repeat (first | (with_reducible first | exact HB.out | apply below_alloc | apply pw_below_drewN | apply below_drew1) | exact HB.out)))); have n1_ := Aside0.mk (below_step (by repeat (first | (with_reducible first | exact HB.out | apply below_alloc | apply pw_below_drewN | apply below_drew1) | exact HB.out)) hb); clear HB; have HO411 := n0_; have HB := n1_; clear n0_ n1_; (try clear hb); (try clear hb2); (try clear hk); (try clear hi); (try clear ho0)) | (go_at_call 11; (with_reducible refine (impl_TurnWord.calls k t407 t412 t413 _ A7.out).mono ?_); rintro e w16 ⟨rfl, hb⟩; have n0_ := Aside0.mk (Kd.R_below (by (with_reducible repeat (first | apply Kd.R_alloc | apply Kd.R_drewN | apply Kd.R_drew)); exact HO411.out) hb); have n1_ := Aside0.mk (below_step (by repeat (first | (with_reducible first | exact HB.out | apply below_alloc | apply pw_below_drewN | apply below_drew1) | exact HB.out)) hb); clear HO411; clear HB; have HO411 := n0_; have HB := n1_; clear n0_ n1_; (try clear hb); (try clear hb2); (try clear hk); (try clear hi)) | (go_at_call 16; (with_reducible refine (impl_PartnersOf.calls k t412 t414 t415 _ A8.out).mono ?_); rintro e w17 ⟨v416, rfl, ho0, hb⟩; have n0_ := Aside0.mk (Kd.R_elder' (by (with_reducible repeat (first | apply Kd.R_alloc | apply Kd.R_drewN | apply Kd.R_drew)); exact HO411.out) (Kd.R_base ho0) hb); have n1_ := Aside0.mk (Kd.R_lower (Kd.R_new' ho0 (Kd.R_lt (by (with_reducible repeat (first | apply Kd.R_alloc | apply Kd.R_drewN | apply Kd.R_drew)); exact HO411.out))) (below_size (by repeat (first | (with_reducible first | exact HB.out | apply below_alloc | apply pw_below_drewN | apply below_drew1) | exact HB.out)))); have n2_ := Aside0.mk (below_step (by repeat (first | (with_reducible first | exact HB.out | apply below_alloc | apply pw_below_drewN | apply below_drew1) | exact HB.out)) hb); clear HO411; clear HB; have HO411 := n0_; have HO417 := n1_; have HB := n2_; clear n0_ n1_ n2_; (try clear hb); (try clear hb2); (try clear hk); (try clear hi); (try clear ho0)) | (go_at_call 11; (with_reducible refine (impl_TurnWord.calls k t412 t418 t419 _ A9.out).mono ?_); rintro e w18 ⟨rfl, hb⟩; have n0_ := Aside0.mk (Kd.R_below (by (with_reducible repeat (first | apply Kd.R_alloc | apply Kd.R_drewN | apply Kd.R_drew)); exact HO411.out) hb); have n1_ := Aside0.mk (Kd.R_below (by (with_reducible repeat (first | apply Kd.R_alloc | apply Kd.R_drewN | apply Kd.R_drew)); exact HO417.out) hb); have n2_ := Aside0.mk (below_step (by repeat (first | (with_reducible first | exact HB.out | apply below_alloc | apply pw_below_drewN | apply below_drew1) | exact HB.out)) hb); clear HO411; clear HO417; clear HB; have HO411 := n0_; have HO417 := n1_; have HB := n2_; clear n0_ n1_ n2_; (try clear hb); (try clear hb2); (try clear hk); (try clear hi)) | (go_at_call 17; (with_reducible refine (impl_PendingOf.calls k t407 t420 t421 t422 _ A10.out).mono ?_); rintro e w19 ⟨rfl, hb⟩; have n0_ := Aside0.mk (Kd.R_below (by (with_reducible repeat (first | apply Kd.R_alloc | apply Kd.R_drewN | apply Kd.R_drew)); exact HO411.out) hb); have n1_ := Aside0.mk (Kd.R_below (by (with_reducible repeat (first | apply Kd.R_alloc | apply Kd.R_drewN | apply Kd.R_drew)); exact HO417.out) hb); have n2_ := Aside0.mk (below_step (by repeat (first | (with_reducible first | exact HB.out | apply below_alloc | apply pw_below_drewN | apply below_drew1) | exact HB.out)) hb); clear HO411; clear HO417; clear HB; have HO411 := n0_; have HO417 := n1_; have HB := n2_; clear n0_ n1_ n2_; (try clear hb); (try clear hb2); (try clear hk); (try clear hi)) | (go_at_call 18; (with_reducible refine (impl_CoreOf.calls k t407 t423 t424 _ A11.out).mono ?_); rintro e w20 ⟨rfl, hb⟩; have n0_ := Aside0.mk (Kd.R_below (by (with_reducible repeat (first | apply Kd.R_alloc | apply Kd.R_drewN | apply Kd.R_drew)); exact HO411.out) hb); have n1_ := Aside0.mk (Kd.R_below (by (with_reducible repeat (first | apply Kd.R_alloc | apply Kd.R_drewN | apply Kd.R_drew)); exact HO417.out) hb); have n2_ := Aside0.mk (below_step (by repeat (first | (with_reducible first | exact HB.out | apply below_alloc | apply pw_below_drewN | apply below_drew1) | exact HB.out)) hb); clear HO411; clear HO417; clear HB; have HO411 := n0_; have HO417 := n1_; have HB := n2_; clear n0_ n1_ n2_; (try clear hb); (try clear hb2); (try clear hk); (try clear hi)) | (go_at_call 19; (with_reducible refine (impl_IsMatched.calls k t407 t425 t426 _ A12.out).mono ?_); rintro e w21 ⟨rfl, hb⟩; have n0_ := Aside0.mk (Kd.R_below (by (with_reducible repeat (first | apply Kd.R_alloc | apply Kd.R_drewN | apply Kd.R_drew)); exact HO411.out) hb); have n1_ := Aside0.mk (Kd.R_below (by (with_reducible repeat (first | apply Kd.R_alloc | apply Kd.R_drewN | apply Kd.R_drew)); exact HO417.out) hb); have n2_ := Aside0.mk (below_step (by repeat (first | (with_reducible first | exact HB.out | apply below_alloc | apply pw_below_drewN | apply below_drew1) | exact HB.out)) hb); clear HO411; clear HO417; clear HB; have HO411 := n0_; have HO417 := n1_; have HB := n2_; clear n0_ n1_ n2_; (try clear hb); (try clear hb2); (try clear hk); (try clear hi))); go_upto_region 11 with (first | (go_at_call 14; (with_reducible refine (laws_a2Long.calls _ _ l0 _ _ l1 false _ ?side1 ?side2 ?side3 ?side4 A3.out).mono ?_); (case side1 => repeat (first | exact HR0.out | (with_reducible refine Kd.C_alloc ?_ _) | (with_reducible refine Kd.C_drewN ?_ _) | (with_reducible refine Kd.C_drew ?_))); (case side2 => exact HC0.out); (case side3 => repeat (first | exact HR1.out | (with_reducible refine Kd.C_alloc ?_ _) | (with_reducible refine Kd.C_drewN ?_ _) | (with_reducible refine Kd.C_drew ?_))); (case side4 => exact HC1.out); rintro e w' ⟨rfl, ⟨nd, rfl⟩⟩; (try first | exact ⟨rfl, _, World.drewN_drewN _ _ _⟩ | exact ⟨rfl, _, Eq.trans (World.drewN_drewN _ _ _) (congrArg (World.drewN _) (Nat.add_assoc _ _ _))⟩)) | (go_at_call 15; (with_reducible refine (spec_A2Word.calls k _ _ l0 16 t407 _ ?side1 ?side2 A5.out).mono ?_); (case side1 => repeat (first | exact HR0.out | (with_reducible refine Kd.C_alloc ?_ _) | (with_reducible refine Kd.C_drewN ?_ _) | (with_reducible refine Kd.C_drew ?_))); (case side2 => exact HC0.out); rintro e w14 ⟨rfl, hb⟩; have n0_ := Aside0.mk (below_step (by repeat (first | (with_reducible first | exact HB.out | apply below_alloc | apply pw_below_drewN | apply below_drew1) | exact HB.out)) hb); clear HB; have HB := n0_; clear n0_; (try clear hb); (try clear hb2); (try clear hk); (try clear hi)) | (go_at_call 16; (with_reducible refine (impl_PartnersOf.calls k t407 t408 t409 _ A6.out).mono ?_); rintro e w15 ⟨v410, rfl, ho0, hb⟩; have n0_ := Aside0.mk (Kd.R_lower ho0 (below_size (by repeat (first | (with_reducible first | exact HB.out | apply below_alloc | apply pw_below_drewN | apply below_drew1) | exact HB.out)))); have n1_ := Aside0.mk (below_step (by repeat (first | (with_reducible first | exact HB.out | apply below_alloc | apply pw_below_drewN | apply below_drew1) | exact HB.out)) hb); clear HB; have HO411 := n0_; have HB := n1_; clear n0_ n1_; (try clear hb); (try clear hb2); (try clear hk); (try clear hi); (try clear ho0)) | (go_at_call 11; (with_reducible refine (impl_TurnWord.calls k t407 t412 t413 _ A7.out).mono ?_); rintro e w16 ⟨rfl, hb⟩; have n0_ := Aside0.mk (Kd.R_below (by (with_reducible repeat (first | apply Kd.R_alloc | apply Kd.R_drewN | apply Kd.R_drew)); exact HO411.out) hb); have n1_ := Aside0.mk (below_step (by repeat (first | (with_reducible first | exact HB.out | apply below_alloc | apply pw_below_drewN | apply below_drew1) | exact HB.out)) hb); clear HO411; clear HB; have HO411 := n0_; have HB := n1_; clear n0_ n1_; (try clear hb); (try clear hb2); (try clear hk); (try clear hi)) | (go_at_call 16; (with_reducible refine (impl_PartnersOf.calls k t412 t414 t415 _ A8.out).mono ?_); rintro e w17 ⟨v416, rfl, ho0, hb⟩; have n0_ := Aside0.mk (Kd.R_elder' (by (with_reducible repeat (first | apply Kd.R_alloc | apply Kd.R_drewN | apply Kd.R_drew)); exact HO411.out) (Kd.R_base ho0) hb); have n1_ := Aside0.mk (Kd.R_lower (Kd.R_new' ho0 (Kd.R_lt (by (with_reducible repeat (first | apply Kd.R_alloc | apply Kd.R_drewN | apply Kd.R_drew)); exact HO411.out))) (below_size (by repeat (first | (with_reducible first | exact HB.out | apply below_alloc | apply pw_below_drewN | apply below_drew1) | exact HB.out)))); have n2_ := Aside0.mk (below_step (by repeat (first | (with_reducible first | exact HB.out | apply below_alloc | apply pw_below_drewN | apply below_drew1) | exact HB.out)) hb); clear HO411; clear HB; have HO411 := n0_; have HO417 := n1_; have HB := n2_; clear n0_ n1_ n2_; (try clear hb); (try clear hb2); (try clear hk); (try clear hi); (try clear ho0)) | (go_at_call 11; (with_reducible refine (impl_TurnWord.calls k t412 t418 t419 _ A9.out).mono ?_); rintro e w18 ⟨rfl, hb⟩; have n0_ := Aside0.mk (Kd.R_below (by (with_reducible repeat (first | apply Kd.R_alloc | apply Kd.R_drewN | apply Kd.R_drew)); exact HO411.out) hb); have n1_ := Aside0.mk (Kd.R_below (by (with_reducible repeat (first | apply Kd.R_alloc | apply Kd.R_drewN | apply Kd.R_drew)); exact HO417.out) hb); have n2_ := Aside0.mk (below_step (by repeat (first | (with_reducible first | exact HB.out | apply below_alloc | apply pw_below_drewN | apply below_drew1) | exact HB.out)) hb); clear HO411; clear HO417; clear HB; have HO411 := n0_; have HO417 := n1_; have HB := n2_; clear n0_ n1_ n2_; (try clear hb); (try clear hb2); (try clear hk); (try clear hi)) | (go_at_call 17; (with_reducible refine (impl_PendingOf.calls k t407 t420 t421 t422 _ A10.out).mono ?_); rintro e w19 ⟨rfl, hb⟩; have n0_ := Aside0.mk (Kd.R_below (by (with_reducible repeat (first | apply Kd.R_alloc | apply Kd.R_drewN | apply Kd.R_drew)); exact HO411.out) hb); have n1_ := Aside0.mk (Kd.R_below (by (with_reducible repeat (first | apply Kd.R_alloc | apply Kd.R_drewN | apply Kd.R_drew)); exact HO417.out) hb); have n2_ := Aside0.mk (below_step (by repeat (first | (with_reducible first | exact HB.out | apply below_alloc | apply pw_below_drewN | apply below_drew1) | exact HB.out)) hb); clear HO411; clear HO417; clear HB; have HO411 := n0_; have HO417 := n1_; have HB := n2_; clear n0_ n1_ n2_; (try clear hb); (try clear hb2); (try clear hk); (try clear hi)) | (go_at_call 18; (with_reducible refine (impl_CoreOf.calls k t407 t423 t424 _ A11.out).mono ?_); rintro e w20 ⟨rfl, hb⟩; have n0_ := Aside0.mk (Kd.R_below (by (with_reducible repeat (first | apply Kd.R_alloc | apply Kd.R_drewN | apply Kd.R_drew)); exact HO411.out) hb); have n1_ := Aside0.mk (Kd.R_below (by (with_reducible repeat (first | apply Kd.R_alloc | apply Kd.R_drewN | apply Kd.R_drew)); exact HO417.out) hb); have n2_ := Aside0.mk (below_step (by repeat (first | (with_reducible first | exact HB.out | apply below_alloc | apply pw_below_drewN | apply below_drew1) | exact HB.out)) hb); clear HO411; clear HO417; clear HB; have HO411 := n0_; have HO417 := n1_; have HB := n2_; clear n0_ n1_ n2_; (try clear hb); (try clear hb2); (try clear hk); (try clear hi)) | (go_at_call 19; (with_reducible refine (impl_IsMatched.calls k t407 t425 t426 _ A12.out).mono ?_); rintro e w21 ⟨rfl, hb⟩; have n0_ := Aside0.mk (Kd.R_below (by (with_reducible repeat (first | apply Kd.R_alloc | apply Kd.R_drewN | apply Kd.R_drew)); exact HO411.out) hb); have n1_ := Aside0.mk (Kd.R_below (by (with_reducible repeat (first | apply Kd.R_alloc | apply Kd.R_drewN | apply Kd.R_drew)); exact HO417.out) hb); have n2_ := Aside0.mk (below_step (by repeat (first | (with_reducible first | exact HB.out | apply below_alloc | apply pw_below_drewN | apply below_drew1) | exact HB.out)) hb); clear HO411; clear HO417; clear HB; have HO411 := n0_; have HO417 := n1_; have HB := n2_; clear n0_ n1_ n2_; (try clear hb); (try clear hb2); (try clear hk); (try clear hi))))
    (try simp only [Act.put, List.setIfInBounds_toArray, List.set_cons_zero, List.set_cons_succ])
    go_cut [138] (fun v138 wc => ∃ (kq : Nat) (x138_12 : Bool), v138 = .bool x138_12 ∧ Aside0 (laws_FnMatching.j0 kq t407 t408 t414 t423 x138_12 = some r) ∧ Aside0 (kq ≤ k) ∧ Aside0 (Kd.R (Kd.int .i64) 2 wc w.heap.size (fun k_ => some k_ ≠ (v416 : Value).ownBlock) v410 t408) ∧ Aside0 (Kd.R (Kd.int .i64) 2 wc w.heap.size (fun k_ => some k_ ≠ (v410 : Value).ownBlock) v416 t414) ∧ Aside0 (Below w.heap.size w wc))
    case first =>
      have H := HC13.out
      clear HC13
      by_cases c22 : t409 = 0
      · as_aux_lemma =>
        rw [if_pos c22] at H
        have c22b0 : (t409 == 0) = true := beq_iff_eq.mpr c22
        have c22b1 : (t409 != 0) = false := bne_eq_false_iff_eq.mpr c22
        clear c22
        (first | rw [c22b0] | rw [c22b1] | (simp only [i64_w, i32_w]; rw [c22b0]) | skip)
        by_cases c23 : t413 = 0
        · as_aux_lemma =>
          rw [if_pos c23] at H
          have c23b0 : (t413 == 0) = true := beq_iff_eq.mpr c23
          have c23b1 : (t413 != 0) = false := bne_eq_false_iff_eq.mpr c23
          clear c23
          by_cases c24 : t415 = 0
          · as_aux_lemma =>
            rw [if_pos c24] at H
            have c24b0 : (t415 == 0) = true := beq_iff_eq.mpr c24
            have c24b1 : (t415 != 0) = false := bne_eq_false_iff_eq.mpr c24
            clear c24
            by_cases c25 : t419 = 0
            · as_aux_lemma =>
              rw [if_pos c25] at H
              have c25b0 : (t419 == 0) = true := beq_iff_eq.mpr c25
              have c25b1 : (t419 != 0) = false := bne_eq_false_iff_eq.mpr c25
              clear c25
              by_cases c26 : t422 = 0
              · rw [if_pos c26] at H
                have c26b0 : (t422 == 0) = true := beq_iff_eq.mpr c26
                have c26b1 : (t422 != 0) = false := bne_eq_false_iff_eq.mpr c26
                clear c26
                by_cases c27 : t424 = 0
                · rw [if_pos c27] at H
                  have c27b0 : (t424 == 0) = true := beq_iff_eq.mpr c27
                  have c27b1 : (t424 != 0) = false := bne_eq_false_iff_eq.mpr c27
                  clear c27
                  by_cases c28 : t426 = 0
                  · rw [if_pos c28] at H
                    have c28b0 : (t426 == 0) = true := beq_iff_eq.mpr c28
                    have c28b1 : (t426 != 0) = false := bne_eq_false_iff_eq.mpr c28
                    clear c28
                    by_cases c29 : (t408.length : Int) = (t407.size : Int)
                    · rw [if_pos c29] at H
                      have c29b0 : ((t408.length : Int) == (t407.size : Int)) = true := beq_iff_eq.mpr c29
                      have c29b1 : ((t408.length : Int) != (t407.size : Int)) = false := bne_eq_false_iff_eq.mpr c29
                      have c29b2 : (t408.length == t407.size) = true := by first | simpa using c29 | (simp at c29 ⊢; omega)
                      clear c29
                      by_cases c30 : (t414.length : Int) = (t407.size : Int)
                      · rw [if_pos c30] at H
                        have c30b0 : ((t414.length : Int) == (t407.size : Int)) = true := beq_iff_eq.mpr c30
                        have c30b1 : ((t414.length : Int) != (t407.size : Int)) = false := bne_eq_false_iff_eq.mpr c30
                        have c30b2 : (t414.length == t407.size) = true := by first | simpa using c30 | (simp at c30 ⊢; omega)
                        clear c30
                        by_cases c31 : (t412.size : Int) = (t407.size : Int)
                        · rw [if_pos c31] at H
                          have c31b0 : ((t412.size : Int) == (t407.size : Int)) = true := beq_iff_eq.mpr c31
                          have c31b1 : ((t412.size : Int) != (t407.size : Int)) = false := bne_eq_false_iff_eq.mpr c31
                          have c31b2 : (t412.size == t407.size) = true := by first | simpa using c31 | (simp at c31 ⊢; omega)
                          clear c31
                          by_cases c32 : t418.toList = t407.toList
                          · rw [if_pos c32] at H
                            have c32b0 : (t418.toList == t407.toList) = true := beq_iff_eq.mpr c32
                            have c32b1 : (t418.toList != t407.toList) = false := bne_eq_false_iff_eq.mpr c32
                            clear c32
                            by_cases c33 : (t425 != ((wrap64 (t420 + t421)) == 0)) = true
                            · rw [if_pos c33] at H
                              have c33b0 : (t425 != ((wrap64 (t420 + t421)) == 0)) = true := c33
                              (try (have c33b1 : decide (t425 = ((wrap64 (t420 + t421)) == 0)) = false := by simpa using c33))
                              (try (have c33b2 : (t425 == ((wrap64 (t420 + t421)) == 0)) = false := by simpa using c33))
                              (try (have c33b3 : ¬ (t425 = ((wrap64 (t420 + t421)) == 0)) := by simpa using c33))
                              clear c33
                              have H' := Aside0.mk H
                              clear H
                              obtain ⟨Ao34, co34, eo34⟩ := Kd.R_slice HO411.out
                              subst eo34
                              obtain ⟨Ao35, co35, eo35⟩ := Kd.R_slice HO417.out
                              subst eo35
                              go_wp2
                              repeat (go_quiet (fail); try go_wp2)
                              go_meet
                              case rel => exact ⟨_, (true), (by first | rfl | (simp; done) | (simp [*]; done)), H', ⟨by first | omega | exact Nat.le_refl _⟩, ⟨by (with_reducible repeat (first | apply Kd.R_alloc | apply Kd.R_drewN | apply Kd.R_drew)); exact Kd.R_mono HO411.out (fun _ hk => hk.2)⟩, ⟨by (with_reducible repeat (first | apply Kd.R_alloc | apply Kd.R_drewN | apply Kd.R_drew)); exact Kd.R_mono HO417.out (fun _ hk => hk.2)⟩, ⟨by repeat (first | (with_reducible first | exact HB.out | apply below_alloc | apply pw_below_drewN | apply below_drew1) | exact HB.out)⟩⟩
                            · rw [if_neg c33] at H
                              have c33b0 : (t425 != ((wrap64 (t420 + t421)) == 0)) = false := by simpa using c33
                              (try (have c33b1 : decide (t425 = ((wrap64 (t420 + t421)) == 0)) = true := by simpa using c33))
                              (try (have c33b2 : (t425 == ((wrap64 (t420 + t421)) == 0)) = true := by simpa using c33))
                              clear c33
                              have H' := Aside0.mk H
                              clear H
                              obtain ⟨Ao36, co36, eo36⟩ := Kd.R_slice HO411.out
                              subst eo36
                              obtain ⟨Ao37, co37, eo37⟩ := Kd.R_slice HO417.out
                              subst eo37
                              go_wp2
                              repeat (go_quiet (fail); try go_wp2)
                              go_meet
                              case rel => exact ⟨_, (((t423.size : Int) != (wrap64 (t420 + t421)))), (by first | rfl | (simp; done) | (simp [*]; done)), H', ⟨by first | omega | exact Nat.le_refl _⟩, ⟨by (with_reducible repeat (first | apply Kd.R_alloc | apply Kd.R_drewN | apply Kd.R_drew)); exact Kd.R_mono HO411.out (fun _ hk => hk.2)⟩, ⟨by (with_reducible repeat (first | apply Kd.R_alloc | apply Kd.R_drewN | apply Kd.R_drew)); exact Kd.R_mono HO417.out (fun _ hk => hk.2)⟩, ⟨by repeat (first | (with_reducible first | exact HB.out | apply below_alloc | apply pw_below_drewN | apply below_drew1) | exact HB.out)⟩⟩
                          · rw [if_neg c32] at H
                            have c32b0 : (t418.toList == t407.toList) = false := beq_eq_false_iff_ne.mpr c32
                            have c32b1 : (t418.toList != t407.toList) = true := bne_iff_ne.mpr c32
                            have H' := Aside0.mk H
                            clear H
                            obtain ⟨Ao38, co38, eo38⟩ := Kd.R_slice HO411.out
                            subst eo38
                            obtain ⟨Ao39, co39, eo39⟩ := Kd.R_slice HO417.out
                            subst eo39
                            go_wp2
                            repeat (go_quiet (fail); try go_wp2)
                            go_meet
                            case rel => exact ⟨_, (true), (by first | rfl | (simp; done) | (simp [*]; done)), H', ⟨by first | omega | exact Nat.le_refl _⟩, ⟨by (with_reducible repeat (first | apply Kd.R_alloc | apply Kd.R_drewN | apply Kd.R_drew)); exact Kd.R_mono HO411.out (fun _ hk => hk.2)⟩, ⟨by (with_reducible repeat (first | apply Kd.R_alloc | apply Kd.R_drewN | apply Kd.R_drew)); exact Kd.R_mono HO417.out (fun _ hk => hk.2)⟩, ⟨by repeat (first | (with_reducible first | exact HB.out | apply below_alloc | apply pw_below_drewN | apply below_drew1) | exact HB.out)⟩⟩
                        · rw [if_neg c31] at H
                          have c31b0 : ((t412.size : Int) == (t407.size : Int)) = false := beq_eq_false_iff_ne.mpr c31
                          have c31b1 : ((t412.size : Int) != (t407.size : Int)) = true := bne_iff_ne.mpr c31
                          have c31b2 : (t412.size == t407.size) = false := by first | simpa using c31 | (simp at c31 ⊢; omega)
                          have H' := Aside0.mk H
                          clear H
                          obtain ⟨Ao40, co40, eo40⟩ := Kd.R_slice HO411.out
                          subst eo40
                          obtain ⟨Ao41, co41, eo41⟩ := Kd.R_slice HO417.out
                          subst eo41
                          go_wp2
                          repeat (go_quiet (fail); try go_wp2)
                          go_meet
                          case rel => exact ⟨_, (true), (by first | rfl | (simp; done) | (simp [*]; done)), H', ⟨by first | omega | exact Nat.le_refl _⟩, ⟨by (with_reducible repeat (first | apply Kd.R_alloc | apply Kd.R_drewN | apply Kd.R_drew)); exact Kd.R_mono HO411.out (fun _ hk => hk.2)⟩, ⟨by (with_reducible repeat (first | apply Kd.R_alloc | apply Kd.R_drewN | apply Kd.R_drew)); exact Kd.R_mono HO417.out (fun _ hk => hk.2)⟩, ⟨by repeat (first | (with_reducible first | exact HB.out | apply below_alloc | apply pw_below_drewN | apply below_drew1) | exact HB.out)⟩⟩
                      · rw [if_neg c30] at H
                        have c30b0 : ((t414.length : Int) == (t407.size : Int)) = false := beq_eq_false_iff_ne.mpr c30
                        have c30b1 : ((t414.length : Int) != (t407.size : Int)) = true := bne_iff_ne.mpr c30
                        have c30b2 : (t414.length == t407.size) = false := by first | simpa using c30 | (simp at c30 ⊢; omega)
                        have H' := Aside0.mk H
                        clear H
                        obtain ⟨Ao42, co42, eo42⟩ := Kd.R_slice HO411.out
                        subst eo42
                        obtain ⟨Ao43, co43, eo43⟩ := Kd.R_slice HO417.out
                        subst eo43
                        go_wp2
                        repeat (go_quiet (fail); try go_wp2)
                        go_meet
                        case rel => exact ⟨_, (true), (by first | rfl | (simp; done) | (simp [*]; done)), H', ⟨by first | omega | exact Nat.le_refl _⟩, ⟨by (with_reducible repeat (first | apply Kd.R_alloc | apply Kd.R_drewN | apply Kd.R_drew)); exact Kd.R_mono HO411.out (fun _ hk => hk.2)⟩, ⟨by (with_reducible repeat (first | apply Kd.R_alloc | apply Kd.R_drewN | apply Kd.R_drew)); exact Kd.R_mono HO417.out (fun _ hk => hk.2)⟩, ⟨by repeat (first | (with_reducible first | exact HB.out | apply below_alloc | apply pw_below_drewN | apply below_drew1) | exact HB.out)⟩⟩
                    · rw [if_neg c29] at H
                      have c29b0 : ((t408.length : Int) == (t407.size : Int)) = false := beq_eq_false_iff_ne.mpr c29
                      have c29b1 : ((t408.length : Int) != (t407.size : Int)) = true := bne_iff_ne.mpr c29
                      have c29b2 : (t408.length == t407.size) = false := by first | simpa using c29 | (simp at c29 ⊢; omega)
                      have H' := Aside0.mk H
                      clear H
                      obtain ⟨Ao44, co44, eo44⟩ := Kd.R_slice HO411.out
                      subst eo44
                      go_wp2
                      repeat (go_quiet (fail); try go_wp2)
                      go_meet
                      case rel => exact ⟨_, (true), (by first | rfl | (simp; done) | (simp [*]; done)), H', ⟨by first | omega | exact Nat.le_refl _⟩, ⟨by (with_reducible repeat (first | apply Kd.R_alloc | apply Kd.R_drewN | apply Kd.R_drew)); exact Kd.R_mono HO411.out (fun _ hk => hk.2)⟩, ⟨by (with_reducible repeat (first | apply Kd.R_alloc | apply Kd.R_drewN | apply Kd.R_drew)); exact Kd.R_mono HO417.out (fun _ hk => hk.2)⟩, ⟨by repeat (first | (with_reducible first | exact HB.out | apply below_alloc | apply pw_below_drewN | apply below_drew1) | exact HB.out)⟩⟩
                  · rw [if_neg c28] at H
                    have c28b0 : (t426 == 0) = false := beq_eq_false_iff_ne.mpr c28
                    have c28b1 : (t426 != 0) = true := bne_iff_ne.mpr c28
                    have H' := Aside0.mk H
                    clear H
                    go_wp2
                    repeat (go_quiet (fail); try go_wp2)
                    go_meet
                    case rel => exact ⟨_, (true), (by first | rfl | (simp; done) | (simp [*]; done)), H', ⟨by first | omega | exact Nat.le_refl _⟩, ⟨by (with_reducible repeat (first | apply Kd.R_alloc | apply Kd.R_drewN | apply Kd.R_drew)); exact Kd.R_mono HO411.out (fun _ hk => hk.2)⟩, ⟨by (with_reducible repeat (first | apply Kd.R_alloc | apply Kd.R_drewN | apply Kd.R_drew)); exact Kd.R_mono HO417.out (fun _ hk => hk.2)⟩, ⟨by repeat (first | (with_reducible first | exact HB.out | apply below_alloc | apply pw_below_drewN | apply below_drew1) | exact HB.out)⟩⟩
                · rw [if_neg c27] at H
                  have c27b0 : (t424 == 0) = false := beq_eq_false_iff_ne.mpr c27
                  have c27b1 : (t424 != 0) = true := bne_iff_ne.mpr c27
                  have H' := Aside0.mk H
                  clear H
                  go_wp2
                  repeat (go_quiet (fail); try go_wp2)
                  go_meet
                  case rel => exact ⟨_, (true), (by first | rfl | (simp; done) | (simp [*]; done)), H', ⟨by first | omega | exact Nat.le_refl _⟩, ⟨by (with_reducible repeat (first | apply Kd.R_alloc | apply Kd.R_drewN | apply Kd.R_drew)); exact Kd.R_mono HO411.out (fun _ hk => hk.2)⟩, ⟨by (with_reducible repeat (first | apply Kd.R_alloc | apply Kd.R_drewN | apply Kd.R_drew)); exact Kd.R_mono HO417.out (fun _ hk => hk.2)⟩, ⟨by repeat (first | (with_reducible first | exact HB.out | apply below_alloc | apply pw_below_drewN | apply below_drew1) | exact HB.out)⟩⟩
              · rw [if_neg c26] at H
                have c26b0 : (t422 == 0) = false := beq_eq_false_iff_ne.mpr c26
                have c26b1 : (t422 != 0) = true := bne_iff_ne.mpr c26
                have H' := Aside0.mk H
                clear H
                go_wp2
                repeat (go_quiet (fail); try go_wp2)
                go_meet
                case rel => exact ⟨_, (true), (by first | rfl | (simp; done) | (simp [*]; done)), H', ⟨by first | omega | exact Nat.le_refl _⟩, ⟨by (with_reducible repeat (first | apply Kd.R_alloc | apply Kd.R_drewN | apply Kd.R_drew)); exact Kd.R_mono HO411.out (fun _ hk => hk.2)⟩, ⟨by (with_reducible repeat (first | apply Kd.R_alloc | apply Kd.R_drewN | apply Kd.R_drew)); exact Kd.R_mono HO417.out (fun _ hk => hk.2)⟩, ⟨by repeat (first | (with_reducible first | exact HB.out | apply below_alloc | apply pw_below_drewN | apply below_drew1) | exact HB.out)⟩⟩
            · rw [if_neg c25] at H
              have c25b0 : (t419 == 0) = false := beq_eq_false_iff_ne.mpr c25
              have c25b1 : (t419 != 0) = true := bne_iff_ne.mpr c25
              have H' := Aside0.mk H
              clear H
              go_wp2
              repeat (go_quiet (fail); try go_wp2)
              go_meet
              case rel => exact ⟨_, (true), (by first | rfl | (simp; done) | (simp [*]; done)), H', ⟨by first | omega | exact Nat.le_refl _⟩, ⟨by (with_reducible repeat (first | apply Kd.R_alloc | apply Kd.R_drewN | apply Kd.R_drew)); exact Kd.R_mono HO411.out (fun _ hk => hk.2)⟩, ⟨by (with_reducible repeat (first | apply Kd.R_alloc | apply Kd.R_drewN | apply Kd.R_drew)); exact Kd.R_mono HO417.out (fun _ hk => hk.2)⟩, ⟨by repeat (first | (with_reducible first | exact HB.out | apply below_alloc | apply pw_below_drewN | apply below_drew1) | exact HB.out)⟩⟩
          · rw [if_neg c24] at H
            have c24b0 : (t415 == 0) = false := beq_eq_false_iff_ne.mpr c24
            have c24b1 : (t415 != 0) = true := bne_iff_ne.mpr c24
            have H' := Aside0.mk H
            clear H
            go_wp2
            repeat (go_quiet (fail); try go_wp2)
            go_meet
            case rel => exact ⟨_, (true), (by first | rfl | (simp; done) | (simp [*]; done)), H', ⟨by first | omega | exact Nat.le_refl _⟩, ⟨by (with_reducible repeat (first | apply Kd.R_alloc | apply Kd.R_drewN | apply Kd.R_drew)); exact Kd.R_mono HO411.out (fun _ hk => hk.2)⟩, ⟨by (with_reducible repeat (first | apply Kd.R_alloc | apply Kd.R_drewN | apply Kd.R_drew)); exact Kd.R_mono HO417.out (fun _ hk => hk.2)⟩, ⟨by repeat (first | (with_reducible first | exact HB.out | apply below_alloc | apply pw_below_drewN | apply below_drew1) | exact HB.out)⟩⟩
        · rw [if_neg c23] at H
          have c23b0 : (t413 == 0) = false := beq_eq_false_iff_ne.mpr c23
          have c23b1 : (t413 != 0) = true := bne_iff_ne.mpr c23
          have H' := Aside0.mk H
          clear H
          go_wp2
          repeat (go_quiet (fail); try go_wp2)
          go_meet
          case rel => exact ⟨_, (true), (by first | rfl | (simp; done) | (simp [*]; done)), H', ⟨by first | omega | exact Nat.le_refl _⟩, ⟨by (with_reducible repeat (first | apply Kd.R_alloc | apply Kd.R_drewN | apply Kd.R_drew)); exact Kd.R_mono HO411.out (fun _ hk => hk.2)⟩, ⟨by (with_reducible repeat (first | apply Kd.R_alloc | apply Kd.R_drewN | apply Kd.R_drew)); exact Kd.R_mono HO417.out (fun _ hk => hk.2)⟩, ⟨by repeat (first | (with_reducible first | exact HB.out | apply below_alloc | apply pw_below_drewN | apply below_drew1) | exact HB.out)⟩⟩
      · rw [if_neg c22] at H
        have c22b0 : (t409 == 0) = false := beq_eq_false_iff_ne.mpr c22
        have c22b1 : (t409 != 0) = true := bne_iff_ne.mpr c22
        (first | rw [c22b0] | rw [c22b1] | (simp only [i64_w, i32_w]; rw [c22b0]) | skip)
        have H' := Aside0.mk H
        clear H
        go_wp2
        repeat (go_quiet (fail); try go_wp2)
        go_meet
        case rel => exact ⟨_, (true), (by first | rfl | (simp; done) | (simp [*]; done)), H', ⟨by first | omega | exact Nat.le_refl _⟩, ⟨by (with_reducible repeat (first | apply Kd.R_alloc | apply Kd.R_drewN | apply Kd.R_drew)); exact Kd.R_mono HO411.out (fun _ hk => hk.2)⟩, ⟨by (with_reducible repeat (first | apply Kd.R_alloc | apply Kd.R_drewN | apply Kd.R_drew)); exact Kd.R_mono HO417.out (fun _ hk => hk.2)⟩, ⟨by repeat (first | (with_reducible first | exact HB.out | apply below_alloc | apply pw_below_drewN | apply below_drew1) | exact HB.out)⟩⟩
    case rest =>
      clear HC13
      try clear c1
      try clear c2
      try clear p2
      try clear c3
      try clear c4
      try clear c6
      try clear p6
      try clear c22
      try clear c22b0
      try clear c22b1
      try clear c23
      try clear c23b0
      try clear c23b1
      try clear c24
      try clear c24b0
      try clear c24b1
      try clear c25
      try clear c25b0
      try clear c25b1
      try clear c26
      try clear c26b0
      try clear c26b1
      try clear c27
      try clear c27b0
      try clear c27b1
      try clear c28
      try clear c28b0
      try clear c28b1
      try clear c29
      try clear c29b0
      try clear c29b1
      try clear c29b2
      try clear c30
      try clear c30b0
      try clear c30b1
      try clear c30b2
      try clear c31
      try clear c31b0
      try clear c31b1
      try clear c31b2
      try clear c32
      try clear c32b0
      try clear c32b1
      try clear c33
      try clear c33b0
      try clear c33b1
      try clear c33b2
      obtain ⟨kq, x138_12, rfl, HA, HJ12, HO_6, HO_10, HB⟩ := hcut
      cases kq with
      | zero => exact absurd HA.out (by simp [laws_FnMatching.j0])
      | succ kj12 =>
        have H := HA.out
        clear HA
        simp only [laws_FnMatching.j0] at H
        by_cases c45 : x138_12 = true
        · subst c45
          have H1 : (some false) = some r := by rw [if_pos rfl] at H; exact H
          clear H
          have H := H1
          clear H1
          obtain rfl := Option.some.inj H
          go_wp2
          repeat (go_quiet (fail); try go_wp2)
          go_ret
          exact ⟨by first | rfl | (simp [errW_none, errW_some] <;> rfl) | (simp [*, errW_none, errW_some] <;> rfl), by repeat (first | (with_reducible first | exact HB.out | apply below_alloc | apply pw_below_drewN | apply below_drew1) | exact HB.out)⟩
        · as_aux_lemma =>
          replace c45 := Bool.eq_false_iff.mpr c45
          subst c45
          have H1 : (laws_FnMatching.l0 kj12 t407 t408 t414 t423 (⟨#[]⟩ : ByteArray) (t407.size : Int) 0) = some r := by rw [if_neg (show ¬ (false = true) by decide)] at H; exact H
          clear H
          have H := H1
          clear H1
          have H' := Aside0.mk H
          clear H
          go_wp2
          repeat (go_quiet (fail); try go_wp2)
          go_loopg [21, 23] kj12 (fun kq v21 v23 w' => ∃ (x21_2 : ByteArray) (x23_2 : Int), v21 = .string x21_2 ∧ v23 = .int .i64 x23_2 ∧ Aside0 (laws_FnMatching.l0 kq t407 t408 t414 t423 x21_2 (t407.size : Int) x23_2 = some r) ∧ Aside0 (kq ≤ kj12) ∧ Aside0 (Kd.R (Kd.int .i64) 2 w' w.heap.size (fun k_ => some k_ ≠ (v416 : Value).ownBlock) v410 t408) ∧ Aside0 (Kd.R (Kd.int .i64) 2 w' w.heap.size (fun k_ => some k_ ≠ (v410 : Value).ownBlock) v416 t414) ∧ Aside0 (Below w.heap.size w w'))
          case atStart => exact ⟨((⟨#[]⟩ : ByteArray)), (0), (by first | rfl | (simp; done) | (simp [*]; done)), (by first | rfl | (simp; done) | (simp [*]; done)), H', ⟨Nat.le_refl _⟩, ⟨by (with_reducible repeat (first | apply Kd.R_alloc | apply Kd.R_drewN | apply Kd.R_drew)); exact HO_6.out⟩, ⟨by (with_reducible repeat (first | apply Kd.R_alloc | apply Kd.R_drewN | apply Kd.R_drew)); exact HO_10.out⟩, ⟨by repeat (first | (with_reducible first | exact HB.out | apply below_alloc | apply pw_below_drewN | apply below_drew1) | exact HB.out)⟩⟩
          case round =>
            clear H'
            try clear c1
            try clear c2
            try clear p2
            try clear c3
            try clear c4
            try clear c6
            try clear p6
            try clear c22
            try clear c22b0
            try clear c22b1
            try clear c23
            try clear c23b0
            try clear c23b1
            try clear c24
            try clear c24b0
            try clear c24b1
            try clear c25
            try clear c25b0
            try clear c25b1
            try clear c26
            try clear c26b0
            try clear c26b1
            try clear c27
            try clear c27b0
            try clear c27b1
            try clear c28
            try clear c28b0
            try clear c28b1
            try clear c29
            try clear c29b0
            try clear c29b1
            try clear c29b2
            try clear c30
            try clear c30b0
            try clear c30b1
            try clear c30b2
            try clear c31
            try clear c31b0
            try clear c31b1
            try clear c31b2
            try clear c32
            try clear c32b0
            try clear c32b1
            try clear c33
            try clear c33b0
            try clear c33b1
            try clear c33b2
            try clear c45
            try clear p2
            try clear p6
            obtain ⟨x21_2, x23_2, rfl, rfl, HA, HK2, HO_6, HO_10, HB⟩ := hrel
            cases gk with
            | zero => exact absurd HA.out (by simp [laws_FnMatching.l0])
            | succ k2 =>
              have H := HA.out
              clear HA
              simp only [laws_FnMatching.l0] at H
              by_cases c46 : x23_2 < (t407.size : Int)
              · as_aux_lemma =>
                rw [if_pos c46] at H
                have c46b0 : decide (x23_2 < (t407.size : Int)) = true := decide_eq_true c46
                clear c46
                have HC47 := Aside0.mk H
                clear H
                go_upto_region 18 with (fail)
                repeat (go_quiet (fail); go_upto_region 18 with (fail))
                go_cut [24] (fun v24 wc => ∃ (kq : Nat) (x24_46 : Bool), v24 = .bool x24_46 ∧ Aside0 (laws_FnMatching.j2 kq t407 t408 t414 t423 x21_2 (t407.size : Int) x23_2 x24_46 = some r) ∧ Aside0 (kq ≤ k2) ∧ Aside0 (Kd.R (Kd.int .i64) 2 wc w.heap.size (fun k_ => some k_ ≠ (v416 : Value).ownBlock) v410 t408) ∧ Aside0 (Kd.R (Kd.int .i64) 2 wc w.heap.size (fun k_ => some k_ ≠ (v410 : Value).ownBlock) v416 t414) ∧ Aside0 (Below w.heap.size w wc))
                case first =>
                  have H := HC47.out
                  clear HC47
                  by_cases c48 : 0 ≤ x23_2
                  · rw [if_pos c48] at H
                    have c48b0 : decide (0 ≤ x23_2) = true := decide_eq_true c48
                    clear c48
                    (first | rw [c48b0] | rw [c48b1] | (simp only [i64_w, i32_w]; rw [c48b0]) | skip)
                    by_cases c49 : x23_2 < (t407.size : Int)
                    · rw [if_pos c49] at H
                      have c49b0 : decide (x23_2 < (t407.size : Int)) = true := decide_eq_true c49
                      clear c49
                      replace H := Option.bind_eq_some_iff.mp H
                      obtain ⟨t427, A510, H⟩ := H
                      replace H : (if t427 = true then (laws_FnMatching.j2 k2 t407 t408 t414 t423 x21_2 (t407.size : Int) x23_2 false) else ((laws_a2Return.f (bt t407 x23_2)).bind fun t428 => (laws_FnMatching.j2 k2 t407 t408 t414 t423 x21_2 (t407.size : Int) x23_2 (!t428)))) = some r := H
                      have A51 := Aside0.mk A510
                      clear A510
                      by_cases c52 : t427 = true
                      · subst c52
                        have H1 : (laws_FnMatching.j2 k2 t407 t408 t414 t423 x21_2 (t407.size : Int) x23_2 false) = some r := by rw [if_pos rfl] at H; exact H
                        clear H
                        have H := H1
                        clear H1
                        have H' := Aside0.mk H
                        clear H
                        have p50 : 0 ≤ (x23_2 : Int) := of_decide_eq_true (by first | (with_reducible assumption) | assumption)
                        have q50 : x23_2 < (t407.size : Int) := of_decide_eq_true (by first | (with_reducible assumption) | assumption)
                        have hx50 := bt_at t407 x23_2
                        replace p50 := eq_true p50
                        replace q50 := eq_true q50
                        go_wp2_with (first | (go_at_call 20; (with_reducible refine (laws_a2Call.calls (bt t407 x23_2) true _ A51.out).mono ?_); rintro e w' ⟨rfl, ⟨nd, rfl⟩⟩; (try first | exact ⟨rfl, _, World.drewN_drewN _ _ _⟩ | exact ⟨rfl, _, Eq.trans (World.drewN_drewN _ _ _) (congrArg (World.drewN _) (Nat.add_assoc _ _ _))⟩)))
                        repeat (go_quiet (first | (go_at_call 20; (with_reducible refine (laws_a2Call.calls (bt t407 x23_2) true _ A51.out).mono ?_); rintro e w' ⟨rfl, ⟨nd, rfl⟩⟩; (try first | exact ⟨rfl, _, World.drewN_drewN _ _ _⟩ | exact ⟨rfl, _, Eq.trans (World.drewN_drewN _ _ _) (congrArg (World.drewN _) (Nat.add_assoc _ _ _))⟩))); try go_wp2_with (first | (go_at_call 20; (with_reducible refine (laws_a2Call.calls (bt t407 x23_2) true _ A51.out).mono ?_); rintro e w' ⟨rfl, ⟨nd, rfl⟩⟩; (try first | exact ⟨rfl, _, World.drewN_drewN _ _ _⟩ | exact ⟨rfl, _, Eq.trans (World.drewN_drewN _ _ _) (congrArg (World.drewN _) (Nat.add_assoc _ _ _))⟩))))
                        go_meet
                        case rel => exact ⟨_, (false), (by first | rfl | (simp; done) | (simp [*]; done)), H', ⟨by have := HJ12.out; have := HK2.out; first | omega | exact Nat.le_refl _⟩, ⟨by (with_reducible repeat (first | apply Kd.R_alloc | apply Kd.R_drewN | apply Kd.R_drew)); exact HO_6.out⟩, ⟨by (with_reducible repeat (first | apply Kd.R_alloc | apply Kd.R_drewN | apply Kd.R_drew)); exact HO_10.out⟩, ⟨by repeat (first | (with_reducible first | exact HB.out | apply below_alloc | apply pw_below_drewN | apply below_drew1) | exact HB.out)⟩⟩
                      · replace c52 := Bool.eq_false_iff.mpr c52
                        subst c52
                        have H1 : ((laws_a2Return.f (bt t407 x23_2)).bind fun t428 => (laws_FnMatching.j2 k2 t407 t408 t414 t423 x21_2 (t407.size : Int) x23_2 (!t428))) = some r := by rw [if_neg (show ¬ (false = true) by decide)] at H; exact H
                        clear H
                        have H := H1
                        clear H1
                        replace H := Option.bind_eq_some_iff.mp H
                        obtain ⟨t428, A540, H⟩ := H
                        replace H : (laws_FnMatching.j2 k2 t407 t408 t414 t423 x21_2 (t407.size : Int) x23_2 (!t428)) = some r := H
                        have A54 := Aside0.mk A540
                        clear A540
                        have H' := Aside0.mk H
                        clear H
                        have p50 : 0 ≤ (x23_2 : Int) := of_decide_eq_true (by first | (with_reducible assumption) | assumption)
                        have q50 : x23_2 < (t407.size : Int) := of_decide_eq_true (by first | (with_reducible assumption) | assumption)
                        have hx50 := bt_at t407 x23_2
                        replace p50 := eq_true p50
                        replace q50 := eq_true q50
                        go_wp2_with (first | (go_at_call 20; (with_reducible refine (laws_a2Call.calls (bt t407 x23_2) false _ A51.out).mono ?_); rintro e w' ⟨rfl, ⟨nd, rfl⟩⟩; (try first | exact ⟨rfl, _, World.drewN_drewN _ _ _⟩ | exact ⟨rfl, _, Eq.trans (World.drewN_drewN _ _ _) (congrArg (World.drewN _) (Nat.add_assoc _ _ _))⟩); have p53 : 0 ≤ (x23_2 : Int) := of_decide_eq_true (by first | (with_reducible assumption) | assumption); have q53 : x23_2 < (t407.size : Int) := of_decide_eq_true (by first | (with_reducible assumption) | assumption); have hx53 := bt_at t407 x23_2; replace p53 := eq_true p53; replace q53 := eq_true q53) | (go_at_call 21; (with_reducible refine (laws_a2Return.calls (bt t407 x23_2) t428 _ A54.out).mono ?_); rintro e w' ⟨rfl, ⟨nd, rfl⟩⟩; (try first | exact ⟨rfl, _, World.drewN_drewN _ _ _⟩ | exact ⟨rfl, _, Eq.trans (World.drewN_drewN _ _ _) (congrArg (World.drewN _) (Nat.add_assoc _ _ _))⟩)))
                        repeat (go_quiet (first | (go_at_call 20; (with_reducible refine (laws_a2Call.calls (bt t407 x23_2) false _ A51.out).mono ?_); rintro e w' ⟨rfl, ⟨nd, rfl⟩⟩; (try first | exact ⟨rfl, _, World.drewN_drewN _ _ _⟩ | exact ⟨rfl, _, Eq.trans (World.drewN_drewN _ _ _) (congrArg (World.drewN _) (Nat.add_assoc _ _ _))⟩); have p53 : 0 ≤ (x23_2 : Int) := of_decide_eq_true (by first | (with_reducible assumption) | assumption); have q53 : x23_2 < (t407.size : Int) := of_decide_eq_true (by first | (with_reducible assumption) | assumption); have hx53 := bt_at t407 x23_2; replace p53 := eq_true p53; replace q53 := eq_true q53) | (go_at_call 21; (with_reducible refine (laws_a2Return.calls (bt t407 x23_2) t428 _ A54.out).mono ?_); rintro e w' ⟨rfl, ⟨nd, rfl⟩⟩; (try first | exact ⟨rfl, _, World.drewN_drewN _ _ _⟩ | exact ⟨rfl, _, Eq.trans (World.drewN_drewN _ _ _) (congrArg (World.drewN _) (Nat.add_assoc _ _ _))⟩))); try go_wp2_with (first | (go_at_call 20; (with_reducible refine (laws_a2Call.calls (bt t407 x23_2) false _ A51.out).mono ?_); rintro e w' ⟨rfl, ⟨nd, rfl⟩⟩; (try first | exact ⟨rfl, _, World.drewN_drewN _ _ _⟩ | exact ⟨rfl, _, Eq.trans (World.drewN_drewN _ _ _) (congrArg (World.drewN _) (Nat.add_assoc _ _ _))⟩); have p53 : 0 ≤ (x23_2 : Int) := of_decide_eq_true (by first | (with_reducible assumption) | assumption); have q53 : x23_2 < (t407.size : Int) := of_decide_eq_true (by first | (with_reducible assumption) | assumption); have hx53 := bt_at t407 x23_2; replace p53 := eq_true p53; replace q53 := eq_true q53) | (go_at_call 21; (with_reducible refine (laws_a2Return.calls (bt t407 x23_2) t428 _ A54.out).mono ?_); rintro e w' ⟨rfl, ⟨nd, rfl⟩⟩; (try first | exact ⟨rfl, _, World.drewN_drewN _ _ _⟩ | exact ⟨rfl, _, Eq.trans (World.drewN_drewN _ _ _) (congrArg (World.drewN _) (Nat.add_assoc _ _ _))⟩))))
                        go_meet
                        case rel => exact ⟨_, (!t428), (by first | rfl | (simp; done) | (simp [*]; done)), H', ⟨by have := HJ12.out; have := HK2.out; first | omega | exact Nat.le_refl _⟩, ⟨by (with_reducible repeat (first | apply Kd.R_alloc | apply Kd.R_drewN | apply Kd.R_drew)); exact HO_6.out⟩, ⟨by (with_reducible repeat (first | apply Kd.R_alloc | apply Kd.R_drewN | apply Kd.R_drew)); exact HO_10.out⟩, ⟨by repeat (first | (with_reducible first | exact HB.out | apply below_alloc | apply pw_below_drewN | apply below_drew1) | exact HB.out)⟩⟩
                    · rw [if_neg c49] at H
                      exact absurd H (by simp)
                  · rw [if_neg c48] at H
                    exact absurd H (by simp)
                case rest =>
                  clear HC47
                  try clear c1
                  try clear c2
                  try clear p2
                  try clear c3
                  try clear c4
                  try clear c5
                  try clear p5
                  try clear q5
                  try clear hx5
                  try clear c6
                  try clear p6
                  try clear c22
                  try clear c22b0
                  try clear c22b1
                  try clear c23
                  try clear c23b0
                  try clear c23b1
                  try clear c24
                  try clear c24b0
                  try clear c24b1
                  try clear c25
                  try clear c25b0
                  try clear c25b1
                  try clear c26
                  try clear c26b0
                  try clear c26b1
                  try clear c27
                  try clear c27b0
                  try clear c27b1
                  try clear c28
                  try clear c28b0
                  try clear c28b1
                  try clear c29
                  try clear c29b0
                  try clear c29b1
                  try clear c29b2
                  try clear c30
                  try clear c30b0
                  try clear c30b1
                  try clear c30b2
                  try clear c31
                  try clear c31b0
                  try clear c31b1
                  try clear c31b2
                  try clear c32
                  try clear c32b0
                  try clear c32b1
                  try clear c33
                  try clear c33b0
                  try clear c33b1
                  try clear c33b2
                  try clear c45
                  try clear c46
                  try clear c46b0
                  try clear c48
                  try clear c48b0
                  try clear c48b1
                  try clear c49
                  try clear c49b0
                  try clear p50
                  try clear q50
                  try clear hx50
                  try clear c52
                  try clear p53
                  try clear q53
                  try clear hx53
                  try clear p2
                  try clear p50
                  try clear p53
                  try clear p6
                  try clear q50
                  try clear q53
                  obtain ⟨kq, x24_46, rfl, HA, HJ46, HO_6, HO_10, HB⟩ := hcut
                  cases kq with
                  | zero => exact absurd HA.out (by simp [laws_FnMatching.j2])
                  | succ kj46 =>
                    have H := HA.out
                    clear HA
                    simp only [laws_FnMatching.j2] at H
                    have HC55 := Aside0.mk H
                    clear H
                    go_upto_region 19 with (fail)
                    repeat (go_quiet (fail); go_upto_region 19 with (fail))
                    go_cut [179] (fun v179 wc => ∃ (kq : Nat) (x179_54 : Bool), v179 = .bool x179_54 ∧ Aside0 (laws_FnMatching.j3 kq t407 t408 t414 t423 x21_2 (t407.size : Int) x23_2 x179_54 = some r) ∧ Aside0 (kq ≤ kj46) ∧ Aside0 (Kd.R (Kd.int .i64) 2 wc w.heap.size (fun k_ => some k_ ≠ (v416 : Value).ownBlock) v410 t408) ∧ Aside0 (Kd.R (Kd.int .i64) 2 wc w.heap.size (fun k_ => some k_ ≠ (v410 : Value).ownBlock) v416 t414) ∧ Aside0 (Below w.heap.size w wc))
                    case first =>
                      have H := HC55.out
                      clear HC55
                      by_cases c56 : 0 ≤ x23_2
                      · rw [if_pos c56] at H
                        have c56b0 : decide (0 ≤ x23_2) = true := decide_eq_true c56
                        clear c56
                        (first | rw [c56b0] | rw [c56b1] | (simp only [i64_w, i32_w]; rw [c56b0]) | skip)
                        by_cases c57 : x23_2 < (t408.length : Int)
                        · rw [if_pos c57] at H
                          have c57b0 : decide (x23_2 < (t408.length : Int)) = true := decide_eq_true c57
                          clear c57
                          by_cases c58 : (((rd t408 x23_2) == (-1)) != x24_46) = true
                          · rw [if_pos c58] at H
                            have c58b0 : (((rd t408 x23_2) == (-1)) != x24_46) = true := c58
                            (try (have c58b1 : decide (((rd t408 x23_2) == (-1)) = x24_46) = false := by simpa using c58))
                            (try (have c58b2 : (((rd t408 x23_2) == (-1)) == x24_46) = false := by simpa using c58))
                            (try (have c58b3 : ¬ (((rd t408 x23_2) == (-1)) = x24_46) := by simpa using c58))
                            clear c58
                            have H' := Aside0.mk H
                            clear H
                            obtain ⟨Ao59, co59, eo59⟩ := Kd.R_slice HO_6.out
                            subst eo59
                            have p429 : 0 ≤ (x23_2 : Int) := of_decide_eq_true (by first | (with_reducible assumption) | assumption)
                            have q429 : x23_2 < (t408.length : Int) := of_decide_eq_true (by first | (with_reducible assumption) | assumption)
                            obtain ⟨ad429, e429, hx429_0⟩ := Kd.at_int (Kd.R_reads' HO_6.out).2.2 x23_2 p429 q429
                            cases e429
                            replace p429 := eq_true p429
                            replace q429 := eq_true q429
                            go_wp2
                            repeat (go_quiet (fail); try go_wp2)
                            go_meet
                            case rel => exact ⟨_, (true), (by first | rfl | (simp; done) | (simp [*]; done)), H', ⟨by have := HJ12.out; have := HK2.out; have := HJ46.out; first | omega | exact Nat.le_refl _⟩, ⟨by (with_reducible repeat (first | apply Kd.R_alloc | apply Kd.R_drewN | apply Kd.R_drew)); exact HO_6.out⟩, ⟨by (with_reducible repeat (first | apply Kd.R_alloc | apply Kd.R_drewN | apply Kd.R_drew)); exact HO_10.out⟩, ⟨by repeat (first | (with_reducible first | exact HB.out | apply below_alloc | apply pw_below_drewN | apply below_drew1) | exact HB.out)⟩⟩
                          · rw [if_neg c58] at H
                            have c58b0 : (((rd t408 x23_2) == (-1)) != x24_46) = false := by simpa using c58
                            (try (have c58b1 : decide (((rd t408 x23_2) == (-1)) = x24_46) = true := by simpa using c58))
                            (try (have c58b2 : (((rd t408 x23_2) == (-1)) == x24_46) = true := by simpa using c58))
                            clear c58
                            by_cases c60 : (rd t408 x23_2) < (-2)
                            · rw [if_pos c60] at H
                              have c60b0 : decide ((rd t408 x23_2) < (-2)) = true := decide_eq_true c60
                              clear c60
                              have H' := Aside0.mk H
                              clear H
                              obtain ⟨Ao61, co61, eo61⟩ := Kd.R_slice HO_6.out
                              subst eo61
                              have p429 : 0 ≤ (x23_2 : Int) := of_decide_eq_true (by first | (with_reducible assumption) | assumption)
                              have q429 : x23_2 < (t408.length : Int) := of_decide_eq_true (by first | (with_reducible assumption) | assumption)
                              obtain ⟨ad429, e429, hx429_0⟩ := Kd.at_int (Kd.R_reads' HO_6.out).2.2 x23_2 p429 q429
                              cases e429
                              replace p429 := eq_true p429
                              replace q429 := eq_true q429
                              have p430 : 0 ≤ (x23_2 : Int) := of_decide_eq_true (by first | (with_reducible assumption) | assumption)
                              have q430 : x23_2 < (t408.length : Int) := of_decide_eq_true (by first | (with_reducible assumption) | assumption)
                              obtain ⟨ad430, e430, hx430_0⟩ := Kd.at_int (Kd.R_reads' HO_6.out).2.2 x23_2 p430 q430
                              obtain rfl : ad429 = ad430 := (by injection e430)
                              replace p430 := eq_true p430
                              replace q430 := eq_true q430
                              go_wp2
                              repeat (go_quiet (fail); try go_wp2)
                              go_meet
                              case rel => exact ⟨_, (true), (by first | rfl | (simp; done) | (simp [*]; done)), H', ⟨by have := HJ12.out; have := HK2.out; have := HJ46.out; first | omega | exact Nat.le_refl _⟩, ⟨by (with_reducible repeat (first | apply Kd.R_alloc | apply Kd.R_drewN | apply Kd.R_drew)); exact HO_6.out⟩, ⟨by (with_reducible repeat (first | apply Kd.R_alloc | apply Kd.R_drewN | apply Kd.R_drew)); exact HO_10.out⟩, ⟨by repeat (first | (with_reducible first | exact HB.out | apply below_alloc | apply pw_below_drewN | apply below_drew1) | exact HB.out)⟩⟩
                            · rw [if_neg c60] at H
                              have c60b0 : decide ((rd t408 x23_2) < (-2)) = false := decide_eq_false c60
                              clear c60
                              have H' := Aside0.mk H
                              clear H
                              obtain ⟨Ao62, co62, eo62⟩ := Kd.R_slice HO_6.out
                              subst eo62
                              have p429 : 0 ≤ (x23_2 : Int) := of_decide_eq_true (by first | (with_reducible assumption) | assumption)
                              have q429 : x23_2 < (t408.length : Int) := of_decide_eq_true (by first | (with_reducible assumption) | assumption)
                              obtain ⟨ad429, e429, hx429_0⟩ := Kd.at_int (Kd.R_reads' HO_6.out).2.2 x23_2 p429 q429
                              cases e429
                              replace p429 := eq_true p429
                              replace q429 := eq_true q429
                              have p430 : 0 ≤ (x23_2 : Int) := of_decide_eq_true (by first | (with_reducible assumption) | assumption)
                              have q430 : x23_2 < (t408.length : Int) := of_decide_eq_true (by first | (with_reducible assumption) | assumption)
                              obtain ⟨ad430, e430, hx430_0⟩ := Kd.at_int (Kd.R_reads' HO_6.out).2.2 x23_2 p430 q430
                              obtain rfl : ad429 = ad430 := (by injection e430)
                              replace p430 := eq_true p430
                              replace q430 := eq_true q430
                              have p431 : 0 ≤ (x23_2 : Int) := of_decide_eq_true (by first | (with_reducible assumption) | assumption)
                              have q431 : x23_2 < (t408.length : Int) := of_decide_eq_true (by first | (with_reducible assumption) | assumption)
                              obtain ⟨ad431, e431, hx431_0⟩ := Kd.at_int (Kd.R_reads' HO_6.out).2.2 x23_2 p431 q431
                              obtain rfl : ad429 = ad431 := (by injection e431)
                              replace p431 := eq_true p431
                              replace q431 := eq_true q431
                              go_wp2
                              repeat (go_quiet (fail); try go_wp2)
                              go_meet
                              case rel => exact ⟨_, (decide ((rd t408 x23_2) ≥ (t407.size : Int))), (by first | rfl | (simp; done) | (simp [*]; done)), H', ⟨by have := HJ12.out; have := HK2.out; have := HJ46.out; first | omega | exact Nat.le_refl _⟩, ⟨by (with_reducible repeat (first | apply Kd.R_alloc | apply Kd.R_drewN | apply Kd.R_drew)); exact HO_6.out⟩, ⟨by (with_reducible repeat (first | apply Kd.R_alloc | apply Kd.R_drewN | apply Kd.R_drew)); exact HO_10.out⟩, ⟨by repeat (first | (with_reducible first | exact HB.out | apply below_alloc | apply pw_below_drewN | apply below_drew1) | exact HB.out)⟩⟩
                        · rw [if_neg c57] at H
                          exact absurd H (by simp)
                      · rw [if_neg c56] at H
                        exact absurd H (by simp)
                    case rest =>
                      clear HC55
                      try clear c1
                      try clear c2
                      try clear p2
                      try clear c3
                      try clear c4
                      try clear p4
                      try clear q4
                      try clear hx4
                      try clear c5
                      try clear p5
                      try clear q5
                      try clear hx5
                      try clear c6
                      try clear p6
                      try clear c22
                      try clear c22b0
                      try clear c22b1
                      try clear c23
                      try clear c23b0
                      try clear c23b1
                      try clear c24
                      try clear c24b0
                      try clear c24b1
                      try clear c25
                      try clear c25b0
                      try clear c25b1
                      try clear c26
                      try clear c26b0
                      try clear c26b1
                      try clear c27
                      try clear c27b0
                      try clear c27b1
                      try clear c28
                      try clear c28b0
                      try clear c28b1
                      try clear c29
                      try clear c29b0
                      try clear c29b1
                      try clear c29b2
                      try clear c30
                      try clear c30b0
                      try clear c30b1
                      try clear c30b2
                      try clear c31
                      try clear c31b0
                      try clear c31b1
                      try clear c31b2
                      try clear c32
                      try clear c32b0
                      try clear c32b1
                      try clear c33
                      try clear c33b0
                      try clear c33b1
                      try clear c33b2
                      try clear p42
                      try clear q42
                      try clear hx42
                      try clear p43
                      try clear q43
                      try clear hx43
                      try clear c45
                      try clear c46
                      try clear c46b0
                      try clear c48
                      try clear c48b0
                      try clear c48b1
                      try clear c49
                      try clear c49b0
                      try clear p50
                      try clear q50
                      try clear hx50
                      try clear c52
                      try clear p53
                      try clear q53
                      try clear hx53
                      try clear c56
                      try clear c56b0
                      try clear c56b1
                      try clear c57
                      try clear c57b0
                      try clear c58
                      try clear c58b0
                      try clear c58b1
                      try clear c58b2
                      try clear c60
                      try clear c60b0
                      try clear hx429_0
                      try clear hx430_0
                      try clear hx431_0
                      try clear p2
                      try clear p429
                      try clear p430
                      try clear p431
                      try clear p5
                      try clear p50
                      try clear p53
                      try clear p6
                      try clear q429
                      try clear q430
                      try clear q431
                      try clear q5
                      try clear q50
                      try clear q53
                      obtain ⟨kq, x179_54, rfl, HA, HJ54, HO_6, HO_10, HB⟩ := hcut
                      cases kq with
                      | zero => exact absurd HA.out (by simp [laws_FnMatching.j3])
                      | succ kj54 =>
                        have H := HA.out
                        clear HA
                        simp only [laws_FnMatching.j3] at H
                        by_cases c63 : x179_54 = true
                        · subst c63
                          have H1 : (some false) = some r := by rw [if_pos rfl] at H; exact H
                          clear H
                          have H := H1
                          clear H1
                          obtain rfl := Option.some.inj H
                          go_wp2
                          repeat (go_quiet (fail); try go_wp2)
                          go_ret
                          exact ⟨by first | rfl | (simp [errW_none, errW_some] <;> rfl) | (simp [*, errW_none, errW_some] <;> rfl), by repeat (first | (with_reducible first | exact HB.out | apply below_alloc | apply pw_below_drewN | apply below_drew1) | exact HB.out)⟩
                        · as_aux_lemma =>
                          replace c63 := Bool.eq_false_iff.mpr c63
                          subst c63
                          have H1 : (if 0 ≤ x23_2 then (if x23_2 < (t408.length : Int) then (if (rd t408 x23_2) ≥ 0 then (laws_FnMatching.j4 kj54 t407 t408 t414 t423 x21_2 (t407.size : Int) x23_2 (wrap64 ((wrap64 ((t407.size : Int) - 1)) - (rd t408 x23_2)))) else (laws_FnMatching.j4 kj54 t407 t408 t414 t423 x21_2 (t407.size : Int) x23_2 (rd t408 x23_2))) else (none)) else (none)) = some r := by rw [if_neg (show ¬ (false = true) by decide)] at H; exact H
                          clear H
                          have H := H1
                          clear H1
                          by_cases c64 : 0 ≤ x23_2
                          · as_aux_lemma =>
                            rw [if_pos c64] at H
                            have c64b0 : decide (0 ≤ x23_2) = true := decide_eq_true c64
                            clear c64
                            by_cases c65 : x23_2 < (t408.length : Int)
                            · as_aux_lemma =>
                              rw [if_pos c65] at H
                              have c65b0 : decide (x23_2 < (t408.length : Int)) = true := decide_eq_true c65
                              clear c65
                              have HC66 := Aside0.mk H
                              clear H
                              obtain ⟨Ao67, co67, eo67⟩ := Kd.R_slice HO_6.out
                              subst eo67
                              have p432 : 0 ≤ (x23_2 : Int) := of_decide_eq_true (by first | (with_reducible assumption) | assumption)
                              have q432 : x23_2 < (t408.length : Int) := of_decide_eq_true (by first | (with_reducible assumption) | assumption)
                              obtain ⟨ad432, e432, hx432_0⟩ := Kd.at_int (Kd.R_reads' HO_6.out).2.2 x23_2 p432 q432
                              cases e432
                              replace p432 := eq_true p432
                              replace q432 := eq_true q432
                              go_upto_if 185 with (fail)
                              repeat (go_quiet (fail); go_upto_if 185 with (fail))
                              go_cut [25] (fun v25 wc => ∃ (kq : Nat) (x25_65 : Int), v25 = .int .i64 x25_65 ∧ Aside0 (laws_FnMatching.j4 kq t407 t408 t414 t423 x21_2 (t407.size : Int) x23_2 x25_65 = some r) ∧ Aside0 (kq ≤ kj54) ∧ Aside0 (Kd.R (Kd.int .i64) 2 wc w.heap.size (fun k_ => some k_ ≠ (v416 : Value).ownBlock) (.slice (some ad432) t408.length co67) t408) ∧ Aside0 (Kd.R (Kd.int .i64) 2 wc w.heap.size (fun k_ => some k_ ≠ ((.slice (some ad432) t408.length co67) : Value).ownBlock) v416 t414) ∧ Aside0 (Below w.heap.size w wc))
                              case first =>
                                have H := HC66.out
                                clear HC66
                                by_cases c68 : (rd t408 x23_2) ≥ 0
                                · rw [if_pos c68] at H
                                  have c68b0 : decide (0 ≤ (rd t408 x23_2)) = true := decide_eq_true c68
                                  clear c68
                                  (first | rw [c68b0] | rw [c68b1] | (simp only [i64_w, i32_w]; rw [c68b0]) | skip)
                                  have H' := Aside0.mk H
                                  clear H
                                  go_wp2
                                  repeat (go_quiet (fail); try go_wp2)
                                  go_meet
                                  case rel => exact ⟨_, (wrap64 ((wrap64 ((t407.size : Int) - 1)) - (rd t408 x23_2))), (by first | rfl | (simp; done) | (simp [*]; done)), H', ⟨by have := HJ12.out; have := HK2.out; have := HJ46.out; have := HJ54.out; first | omega | exact Nat.le_refl _⟩, ⟨by (with_reducible repeat (first | apply Kd.R_alloc | apply Kd.R_drewN | apply Kd.R_drew)); exact HO_6.out⟩, ⟨by (with_reducible repeat (first | apply Kd.R_alloc | apply Kd.R_drewN | apply Kd.R_drew)); exact HO_10.out⟩, ⟨by repeat (first | (with_reducible first | exact HB.out | apply below_alloc | apply pw_below_drewN | apply below_drew1) | exact HB.out)⟩⟩
                                · rw [if_neg c68] at H
                                  have c68b0 : decide (0 ≤ (rd t408 x23_2)) = false := decide_eq_false c68
                                  clear c68
                                  (first | rw [c68b0] | rw [c68b1] | (simp only [i64_w, i32_w]; rw [c68b0]) | skip)
                                  have H' := Aside0.mk H
                                  clear H
                                  go_wp2
                                  repeat (go_quiet (fail); try go_wp2)
                                  go_meet
                                  case rel => exact ⟨_, (rd t408 x23_2), (by first | rfl | (simp; done) | (simp [*]; done)), H', ⟨by have := HJ12.out; have := HK2.out; have := HJ46.out; have := HJ54.out; first | omega | exact Nat.le_refl _⟩, ⟨by (with_reducible repeat (first | apply Kd.R_alloc | apply Kd.R_drewN | apply Kd.R_drew)); exact HO_6.out⟩, ⟨by (with_reducible repeat (first | apply Kd.R_alloc | apply Kd.R_drewN | apply Kd.R_drew)); exact HO_10.out⟩, ⟨by repeat (first | (with_reducible first | exact HB.out | apply below_alloc | apply pw_below_drewN | apply below_drew1) | exact HB.out)⟩⟩
                              case rest =>
                                clear HC66
                                try clear c1
                                try clear c2
                                try clear p2
                                try clear c3
                                try clear c4
                                try clear p4
                                try clear q4
                                try clear hx4
                                try clear c5
                                try clear p5
                                try clear q5
                                try clear hx5
                                try clear c6
                                try clear p6
                                try clear c22
                                try clear c22b0
                                try clear c22b1
                                try clear c23
                                try clear c23b0
                                try clear c23b1
                                try clear c24
                                try clear c24b0
                                try clear c24b1
                                try clear c25
                                try clear c25b0
                                try clear c25b1
                                try clear c26
                                try clear c26b0
                                try clear c26b1
                                try clear c27
                                try clear c27b0
                                try clear c27b1
                                try clear c28
                                try clear c28b0
                                try clear c28b1
                                try clear c29
                                try clear c29b0
                                try clear c29b1
                                try clear c29b2
                                try clear c30
                                try clear c30b0
                                try clear c30b1
                                try clear c30b2
                                try clear c31
                                try clear c31b0
                                try clear c31b1
                                try clear c31b2
                                try clear c32
                                try clear c32b0
                                try clear c32b1
                                try clear c33
                                try clear c33b0
                                try clear c33b1
                                try clear c33b2
                                try clear p42
                                try clear q42
                                try clear hx42
                                try clear p43
                                try clear q43
                                try clear hx43
                                try clear c45
                                try clear c46
                                try clear c46b0
                                try clear c48
                                try clear c48b0
                                try clear c48b1
                                try clear c49
                                try clear c49b0
                                try clear p50
                                try clear q50
                                try clear hx50
                                try clear c52
                                try clear p53
                                try clear q53
                                try clear hx53
                                try clear c56
                                try clear c56b0
                                try clear c56b1
                                try clear c57
                                try clear c57b0
                                try clear c58
                                try clear c58b0
                                try clear c58b1
                                try clear c58b2
                                try clear c60
                                try clear c60b0
                                try clear c63
                                try clear c64
                                try clear c64b0
                                try clear p64
                                try clear c65
                                try clear c65b0
                                try clear c68
                                try clear c68b0
                                try clear c68b1
                                try clear hx429_0
                                try clear hx430_0
                                try clear hx431_0
                                try clear hx432_0
                                try clear p2
                                try clear p4
                                try clear p42
                                try clear p429
                                try clear p43
                                try clear p430
                                try clear p431
                                try clear p432
                                try clear p5
                                try clear p50
                                try clear p53
                                try clear p6
                                try clear q4
                                try clear q42
                                try clear q429
                                try clear q43
                                try clear q430
                                try clear q431
                                try clear q432
                                try clear q5
                                try clear q50
                                try clear q53
                                obtain ⟨kq, x25_65, rfl, HA, HJ65, HO_6, HO_10, HB⟩ := hcut
                                cases kq with
                                | zero => exact absurd HA.out (by simp [laws_FnMatching.j4])
                                | succ kj65 =>
                                  have H := HA.out
                                  clear HA
                                  simp only [laws_FnMatching.j4] at H
                                  obtain ⟨ji69, hji69⟩ : ∃ j_ : Int, (wrap64 ((wrap64 ((t407.size : Int) - 1)) - x23_2)) = j_ := ⟨_, rfl⟩
                                  replace H : (if 0 ≤ (ji69) then (if (ji69) < (t414.length : Int) then (if (rd t414 (ji69)) = x25_65 then (if 0 ≤ x23_2 then (if x23_2 < (t408.length : Int) then (if (rd t408 x23_2) = (-2) then (if x23_2 ≤ (wrap64 (x23_2 + 1)) then (if (wrap64 (x23_2 + 1)) ≤ (t407.size : Int) then (if x21_2.size + (t407.extract (x23_2 : Int).toNat ((wrap64 (x23_2 + 1)) : Int).toNat).size ≤ 9223372036854775807 then (laws_FnMatching.j5 kj65 t407 t408 t414 t423 (x21_2 ++ (t407.extract (x23_2 : Int).toNat ((wrap64 (x23_2 + 1)) : Int).toNat)) (t407.size : Int) x23_2) else (none)) else (none)) else (none)) else (laws_FnMatching.j5 kj65 t407 t408 t414 t423 x21_2 (t407.size : Int) x23_2)) else (none)) else (none)) else (some false)) else (none)) else (none)) = some r := by first | (rw [hji69] at H; exact H) | (simp only [hji69] at H ⊢; exact H)
                                  have hji69w : (IntKind.i64.wrap ((wrap64 ((t407.size : Int) - 1)) - x23_2)) = ji69 := (i64_w _).trans hji69
                                  by_cases c70 : 0 ≤ (ji69)
                                  · as_aux_lemma =>
                                    rw [if_pos c70] at H
                                    have c70b0 : decide (0 ≤ (ji69)) = true := decide_eq_true c70
                                    clear c70
                                    by_cases c71 : (ji69) < (t414.length : Int)
                                    · as_aux_lemma =>
                                      rw [if_pos c71] at H
                                      have c71b0 : decide ((ji69) < (t414.length : Int)) = true := decide_eq_true c71
                                      clear c71
                                      by_cases c72 : (rd t414 (ji69)) = x25_65
                                      · as_aux_lemma =>
                                        rw [if_pos c72] at H
                                        have c72b0 : ((rd t414 (ji69)) == x25_65) = true := beq_iff_eq.mpr c72
                                        have c72b1 : ((rd t414 (ji69)) != x25_65) = false := bne_eq_false_iff_eq.mpr c72
                                        clear c72
                                        by_cases c73 : 0 ≤ x23_2
                                        · as_aux_lemma =>
                                          rw [if_pos c73] at H
                                          have c73b0 : decide (0 ≤ x23_2) = true := decide_eq_true c73
                                          clear c73
                                          by_cases c74 : x23_2 < (t408.length : Int)
                                          · as_aux_lemma =>
                                            rw [if_pos c74] at H
                                            have c74b0 : decide (x23_2 < (t408.length : Int)) = true := decide_eq_true c74
                                            clear c74
                                            have HC75 := Aside0.mk H
                                            clear H
                                            obtain ⟨Ao76, co76, eo76⟩ := Kd.R_slice HO_10.out
                                            subst eo76
                                            have p433 : 0 ≤ ((ji69) : Int) := of_decide_eq_true (by first | (with_reducible assumption) | assumption)
                                            have q433 : (ji69) < (t414.length : Int) := of_decide_eq_true (by first | (with_reducible assumption) | assumption)
                                            obtain ⟨ad433, e433, hx433_0⟩ := Kd.at_int (Kd.R_reads' HO_10.out).2.2 (ji69) p433 q433
                                            cases e433
                                            replace p433 := eq_true p433
                                            replace q433 := eq_true q433
                                            have p434 : 0 ≤ (x23_2 : Int) := of_decide_eq_true (by first | (with_reducible assumption) | assumption)
                                            have q434 : x23_2 < (t408.length : Int) := of_decide_eq_true (by first | (with_reducible assumption) | assumption)
                                            obtain ⟨ad434, e434, hx434_0⟩ := Kd.at_int (Kd.R_reads' HO_6.out).2.2 x23_2 p434 q434
                                            obtain rfl : ad432 = ad434 := (by injection e434)
                                            replace p434 := eq_true p434
                                            replace q434 := eq_true q434
                                            go_upto_if 203 with (fail)
                                            repeat (go_quiet (fail); go_upto_if 203 with (fail))
                                            go_cut [21] (fun v21 wc => ∃ (kq : Nat) (x21_74 : ByteArray), v21 = .string x21_74 ∧ Aside0 (laws_FnMatching.j5 kq t407 t408 t414 t423 x21_74 (t407.size : Int) x23_2 = some r) ∧ Aside0 (kq ≤ kj65) ∧ Aside0 (Kd.R (Kd.int .i64) 2 wc w.heap.size (fun k_ => some k_ ≠ ((.slice (some ad433) t414.length co76) : Value).ownBlock) (.slice (some ad432) t408.length co67) t408) ∧ Aside0 (Kd.R (Kd.int .i64) 2 wc w.heap.size (fun k_ => some k_ ≠ ((.slice (some ad432) t408.length co67) : Value).ownBlock) (.slice (some ad433) t414.length co76) t414) ∧ Aside0 (Below w.heap.size w wc))
                                            case first =>
                                              have H := HC75.out
                                              clear HC75
                                              by_cases c77 : (rd t408 x23_2) = (-2)
                                              · rw [if_pos c77] at H
                                                have c77b0 : ((rd t408 x23_2) == (-2)) = true := beq_iff_eq.mpr c77
                                                have c77b1 : ((rd t408 x23_2) != (-2)) = false := bne_eq_false_iff_eq.mpr c77
                                                clear c77
                                                (first | rw [c77b0] | rw [c77b1] | (simp only [i64_w, i32_w]; rw [c77b0]) | skip)
                                                have c78b0 := eq_true (of_decide_eq_true (by first | (with_reducible assumption) | assumption) : 0 ≤ x23_2)
                                                by_cases c79 : x23_2 ≤ (wrap64 (x23_2 + 1))
                                                · rw [if_pos c79] at H
                                                  have c79b0 := eq_true c79
                                                  have c79b1 : decide (x23_2 ≤ (wrap64 (x23_2 + 1))) = true := decide_eq_true c79
                                                  by_cases c80 : (wrap64 (x23_2 + 1)) ≤ (t407.size : Int)
                                                  · rw [if_pos c80] at H
                                                    have c80b0 := eq_true c80
                                                    have c80b1 : decide ((wrap64 (x23_2 + 1)) ≤ (t407.size : Int)) = true := decide_eq_true c80
                                                    by_cases c81 : x21_2.size + (t407.extract (x23_2 : Int).toNat ((wrap64 (x23_2 + 1)) : Int).toNat).size ≤ 9223372036854775807
                                                    · rw [if_pos c81] at H
                                                      have c81b0 := eq_true c81
                                                      have c81b1 : decide (x21_2.size + (t407.extract (x23_2 : Int).toNat ((wrap64 (x23_2 + 1)) : Int).toNat).size ≤ 9223372036854775807) = true := decide_eq_true c81
                                                      try have c81b2 : (9223372036854775807 < x21_2.size + (t407.extract (x23_2 : Int).toNat ((wrap64 (x23_2 + 1)) : Int).toNat).size) = False := eq_false (Nat.not_lt.2 c81)
                                                      (try have c81b3 : (9223372036854775807 < x21_2.size + ((t407.extract (x23_2 : Int).toNat ((wrap64 (x23_2 + 1)) : Int).toNat).size)) = False := eq_false (by have h_ := c81; simp only [ByteArray.size_append] at h_; exact Nat.not_lt.2 h_))
                                                      (try have c81b4 : (x21_2.size + ((t407.extract (x23_2 : Int).toNat ((wrap64 (x23_2 + 1)) : Int).toNat).size) ≤ 9223372036854775807) = True := eq_true (by have h_ := c81; simp only [ByteArray.size_append] at h_; exact h_))
                                                      have H' := Aside0.mk H
                                                      clear H
                                                      go_wp2
                                                      repeat (go_quiet (fail); try go_wp2)
                                                      go_meet
                                                      case rel => exact ⟨_, (x21_2 ++ (t407.extract (x23_2 : Int).toNat ((wrap64 (x23_2 + 1)) : Int).toNat)), (by first | rfl | (simp; done) | (simp [*]; done)), H', ⟨by have := HJ12.out; have := HK2.out; have := HJ46.out; have := HJ54.out; have := HJ65.out; first | omega | exact Nat.le_refl _⟩, ⟨by (with_reducible repeat (first | apply Kd.R_alloc | apply Kd.R_drewN | apply Kd.R_drew)); exact HO_6.out⟩, ⟨by (with_reducible repeat (first | apply Kd.R_alloc | apply Kd.R_drewN | apply Kd.R_drew)); exact HO_10.out⟩, ⟨by repeat (first | (with_reducible first | exact HB.out | apply below_alloc | apply pw_below_drewN | apply below_drew1) | exact HB.out)⟩⟩
                                                    · rw [if_neg c81] at H
                                                      exact absurd H (by simp)
                                                  · rw [if_neg c80] at H
                                                    exact absurd H (by simp)
                                                · rw [if_neg c79] at H
                                                  exact absurd H (by simp)
                                              · rw [if_neg c77] at H
                                                have c77b0 : ((rd t408 x23_2) == (-2)) = false := beq_eq_false_iff_ne.mpr c77
                                                have c77b1 : ((rd t408 x23_2) != (-2)) = true := bne_iff_ne.mpr c77
                                                (first | rw [c77b0] | rw [c77b1] | (simp only [i64_w, i32_w]; rw [c77b0]) | skip)
                                                have H' := Aside0.mk H
                                                clear H
                                                go_wp2
                                                repeat (go_quiet (fail); try go_wp2)
                                                go_meet
                                                case rel => exact ⟨_, (x21_2), (by first | rfl | (simp; done) | (simp [*]; done)), H', ⟨by have := HJ12.out; have := HK2.out; have := HJ46.out; have := HJ54.out; have := HJ65.out; first | omega | exact Nat.le_refl _⟩, ⟨by (with_reducible repeat (first | apply Kd.R_alloc | apply Kd.R_drewN | apply Kd.R_drew)); exact HO_6.out⟩, ⟨by (with_reducible repeat (first | apply Kd.R_alloc | apply Kd.R_drewN | apply Kd.R_drew)); exact HO_10.out⟩, ⟨by repeat (first | (with_reducible first | exact HB.out | apply below_alloc | apply pw_below_drewN | apply below_drew1) | exact HB.out)⟩⟩
                                            case rest =>
                                              clear HC75
                                              try clear c1
                                              try clear c2
                                              try clear p2
                                              try clear c3
                                              try clear c4
                                              try clear p4
                                              try clear q4
                                              try clear hx4
                                              try clear c5
                                              try clear p5
                                              try clear q5
                                              try clear hx5
                                              try clear c6
                                              try clear p6
                                              try clear c7
                                              try clear c8
                                              try clear c22
                                              try clear c22b0
                                              try clear c22b1
                                              try clear c23
                                              try clear c23b0
                                              try clear c23b1
                                              try clear c24
                                              try clear c24b0
                                              try clear c24b1
                                              try clear c25
                                              try clear c25b0
                                              try clear c25b1
                                              try clear c26
                                              try clear c26b0
                                              try clear c26b1
                                              try clear c27
                                              try clear c27b0
                                              try clear c27b1
                                              try clear c28
                                              try clear c28b0
                                              try clear c28b1
                                              try clear c29
                                              try clear c29b0
                                              try clear c29b1
                                              try clear c29b2
                                              try clear c30
                                              try clear c30b0
                                              try clear c30b1
                                              try clear c30b2
                                              try clear c31
                                              try clear c31b0
                                              try clear c31b1
                                              try clear c31b2
                                              try clear c32
                                              try clear c32b0
                                              try clear c32b1
                                              try clear c33
                                              try clear c33b0
                                              try clear c33b1
                                              try clear c33b2
                                              try clear p42
                                              try clear q42
                                              try clear hx42
                                              try clear p43
                                              try clear q43
                                              try clear hx43
                                              try clear c45
                                              try clear c46
                                              try clear c46b0
                                              try clear c48
                                              try clear c48b0
                                              try clear c48b1
                                              try clear c49
                                              try clear c49b0
                                              try clear p50
                                              try clear q50
                                              try clear hx50
                                              try clear c52
                                              try clear p53
                                              try clear q53
                                              try clear hx53
                                              try clear c56
                                              try clear c56b0
                                              try clear c56b1
                                              try clear c57
                                              try clear c57b0
                                              try clear c58
                                              try clear c58b0
                                              try clear c58b1
                                              try clear c58b2
                                              try clear c60
                                              try clear c60b0
                                              try clear c63
                                              try clear c64
                                              try clear c64b0
                                              try clear p64
                                              try clear c65
                                              try clear c65b0
                                              try clear c68
                                              try clear c68b0
                                              try clear c68b1
                                              try clear c70
                                              try clear c70b0
                                              try clear c71
                                              try clear c71b0
                                              try clear c72
                                              try clear c72b0
                                              try clear c72b1
                                              try clear c73
                                              try clear c73b0
                                              try clear c74
                                              try clear c74b0
                                              try clear c77
                                              try clear c77b0
                                              try clear c77b1
                                              try clear c78
                                              try clear c78b0
                                              try clear c79
                                              try clear c79b0
                                              try clear c79b1
                                              try clear c80
                                              try clear c80b0
                                              try clear c80b1
                                              try clear c81
                                              try clear c81b0
                                              try clear c81b1
                                              try clear c81b2
                                              try clear hx429_0
                                              try clear hx430_0
                                              try clear hx431_0
                                              try clear hx432_0
                                              try clear hx433_0
                                              try clear hx434_0
                                              try clear p2
                                              try clear p4
                                              try clear p42
                                              try clear p429
                                              try clear p43
                                              try clear p430
                                              try clear p431
                                              try clear p432
                                              try clear p433
                                              try clear p434
                                              try clear p5
                                              try clear p50
                                              try clear p53
                                              try clear p6
                                              try clear p64
                                              try clear q4
                                              try clear q42
                                              try clear q429
                                              try clear q43
                                              try clear q430
                                              try clear q431
                                              try clear q432
                                              try clear q433
                                              try clear q434
                                              try clear q5
                                              try clear q50
                                              try clear q53
                                              obtain ⟨kq, x21_74, rfl, HA, HJ74, HO_6, HO_10, HB⟩ := hcut
                                              cases kq with
                                              | zero => exact absurd HA.out (by simp [laws_FnMatching.j5])
                                              | succ kj74 =>
                                                have H := HA.out
                                                clear HA
                                                simp only [laws_FnMatching.j5] at H
                                                by_cases c82 : 0 ≤ x23_2
                                                · as_aux_lemma =>
                                                  rw [if_pos c82] at H
                                                  have c82b0 : decide (0 ≤ x23_2) = true := decide_eq_true c82
                                                  clear c82
                                                  by_cases c83 : x23_2 < (t408.length : Int)
                                                  · as_aux_lemma =>
                                                    rw [if_pos c83] at H
                                                    have c83b0 : decide (x23_2 < (t408.length : Int)) = true := decide_eq_true c83
                                                    clear c83
                                                    by_cases c84 : (rd t408 x23_2) < 0
                                                    · rw [if_pos c84] at H
                                                      have c84b0 : decide ((rd t408 x23_2) < 0) = true := decide_eq_true c84
                                                      clear c84
                                                      have H' := Aside0.mk H
                                                      clear H
                                                      have p435 : 0 ≤ (x23_2 : Int) := of_decide_eq_true (by first | (with_reducible assumption) | assumption)
                                                      have q435 : x23_2 < (t408.length : Int) := of_decide_eq_true (by first | (with_reducible assumption) | assumption)
                                                      obtain ⟨ad435, e435, hx435_0⟩ := Kd.at_int (Kd.R_reads' HO_6.out).2.2 x23_2 p435 q435
                                                      obtain rfl : ad432 = ad435 := (by injection e435)
                                                      replace p435 := eq_true p435
                                                      replace q435 := eq_true q435
                                                      go_wp2
                                                      repeat (go_quiet (fail); try go_wp2)
                                                      go_roundg kj74
                                                      case measure => have := HJ12.out; have := HK2.out; have := HJ46.out; have := HJ54.out; have := HJ65.out; have := HJ74.out; omega
                                                      case rel => exact ⟨(x21_74), (wrap64 (x23_2 + 1)), (by first | rfl | (simp; done) | (simp [*]; done)), (by first | rfl | (simp; done) | (simp [*]; done)), H', ⟨by have := HJ12.out; have := HK2.out; have := HJ46.out; have := HJ54.out; have := HJ65.out; have := HJ74.out; omega⟩, ⟨by (with_reducible repeat (first | apply Kd.R_alloc | apply Kd.R_drewN | apply Kd.R_drew)); exact HO_6.out⟩, ⟨by (with_reducible repeat (first | apply Kd.R_alloc | apply Kd.R_drewN | apply Kd.R_drew)); exact HO_10.out⟩, ⟨by repeat (first | (with_reducible first | exact HB.out | apply below_alloc | apply pw_below_drewN | apply below_drew1) | exact HB.out)⟩⟩
                                                    · as_aux_lemma =>
                                                      rw [if_neg c84] at H
                                                      have c84b0 : decide ((rd t408 x23_2) < 0) = false := decide_eq_false c84
                                                      clear c84
                                                      have HC85 := Aside0.mk H
                                                      clear H
                                                      have p435 : 0 ≤ (x23_2 : Int) := of_decide_eq_true (by first | (with_reducible assumption) | assumption)
                                                      have q435 : x23_2 < (t408.length : Int) := of_decide_eq_true (by first | (with_reducible assumption) | assumption)
                                                      obtain ⟨ad435, e435, hx435_0⟩ := Kd.at_int (Kd.R_reads' HO_6.out).2.2 x23_2 p435 q435
                                                      obtain rfl : ad432 = ad435 := (by injection e435)
                                                      replace p435 := eq_true p435
                                                      replace q435 := eq_true q435
                                                      go_upto_region 29 with (fail)
                                                      repeat (go_quiet (fail); go_upto_region 29 with (fail))
                                                      go_cut [237] (fun v237 wc => ∃ (kq : Nat) (x237_84 : Bool), v237 = .bool x237_84 ∧ Aside0 (laws_FnMatching.j6 kq t407 t408 t414 t423 x21_74 (t407.size : Int) x23_2 x237_84 = some r) ∧ Aside0 (kq ≤ kj74) ∧ Aside0 (Kd.R (Kd.int .i64) 2 wc w.heap.size (fun k_ => some k_ ≠ ((.slice (some ad433) t414.length co76) : Value).ownBlock) (.slice (some ad432) t408.length co67) t408) ∧ Aside0 (Kd.R (Kd.int .i64) 2 wc w.heap.size (fun k_ => some k_ ≠ ((.slice (some ad432) t408.length co67) : Value).ownBlock) (.slice (some ad433) t414.length co76) t414) ∧ Aside0 (Below w.heap.size w wc))
                                                      case first =>
                                                        have H := HC85.out
                                                        clear HC85
                                                        by_cases c86 : 0 ≤ (rd t408 x23_2)
                                                        · rw [if_pos c86] at H
                                                          have c86b0 : decide (0 ≤ (rd t408 x23_2)) = true := decide_eq_true c86
                                                          clear c86
                                                          (first | rw [c86b0] | rw [c86b1] | (simp only [i64_w, i32_w]; rw [c86b0]) | skip)
                                                          by_cases c87 : (rd t408 x23_2) < (t408.length : Int)
                                                          · rw [if_pos c87] at H
                                                            have c87b0 : decide ((rd t408 x23_2) < (t408.length : Int)) = true := decide_eq_true c87
                                                            clear c87
                                                            by_cases c88 : (rd t408 (rd t408 x23_2)) = x23_2
                                                            · rw [if_pos c88] at H
                                                              have c88b0 : ((rd t408 (rd t408 x23_2)) == x23_2) = true := beq_iff_eq.mpr c88
                                                              have c88b1 : ((rd t408 (rd t408 x23_2)) != x23_2) = false := bne_eq_false_iff_eq.mpr c88
                                                              clear c88
                                                              by_cases c89 : x23_2 < (t407.size : Int)
                                                              · rw [if_pos c89] at H
                                                                have c89b0 : decide (x23_2 < (t407.size : Int)) = true := decide_eq_true c89
                                                                clear c89
                                                                replace H := Option.bind_eq_some_iff.mp H
                                                                obtain ⟨t438, A910, H⟩ := H
                                                                replace H : (laws_FnMatching.j6 kj74 t407 t408 t414 t423 x21_74 (t407.size : Int) x23_2 (t438 != (decide ((rd t408 x23_2) > x23_2)))) = some r := H
                                                                have A91 := Aside0.mk A910
                                                                clear A910
                                                                have H' := Aside0.mk H
                                                                clear H
                                                                have p436 : 0 ≤ (x23_2 : Int) := of_decide_eq_true (by first | (with_reducible assumption) | assumption)
                                                                have q436 : x23_2 < (t408.length : Int) := of_decide_eq_true (by first | (with_reducible assumption) | assumption)
                                                                obtain ⟨ad436, e436, hx436_0⟩ := Kd.at_int (Kd.R_reads' HO_6.out).2.2 x23_2 p436 q436
                                                                obtain rfl : ad432 = ad436 := (by injection e436)
                                                                replace p436 := eq_true p436
                                                                replace q436 := eq_true q436
                                                                have p437 : 0 ≤ ((rd t408 x23_2) : Int) := of_decide_eq_true (by first | (with_reducible assumption) | assumption)
                                                                have q437 : (rd t408 x23_2) < (t408.length : Int) := of_decide_eq_true (by first | (with_reducible assumption) | assumption)
                                                                obtain ⟨ad437, e437, hx437_0⟩ := Kd.at_int (Kd.R_reads' HO_6.out).2.2 (rd t408 x23_2) p437 q437
                                                                obtain rfl : ad432 = ad437 := (by injection e437)
                                                                replace p437 := eq_true p437
                                                                replace q437 := eq_true q437
                                                                have p90 : 0 ≤ (x23_2 : Int) := of_decide_eq_true (by first | (with_reducible assumption) | assumption)
                                                                have q90 : x23_2 < (t407.size : Int) := of_decide_eq_true (by first | (with_reducible assumption) | assumption)
                                                                have hx90 := bt_at t407 x23_2
                                                                replace p90 := eq_true p90
                                                                replace q90 := eq_true q90
                                                                go_wp2_with (first | (go_at_call 20; (with_reducible refine (laws_a2Call.calls (bt t407 x23_2) t438 _ A91.out).mono ?_); rintro e w' ⟨rfl, ⟨nd, rfl⟩⟩; (try first | exact ⟨rfl, _, World.drewN_drewN _ _ _⟩ | exact ⟨rfl, _, Eq.trans (World.drewN_drewN _ _ _) (congrArg (World.drewN _) (Nat.add_assoc _ _ _))⟩); have p439 : 0 ≤ (x23_2 : Int) := of_decide_eq_true (by first | (with_reducible assumption) | assumption); have q439 : x23_2 < (t408.length : Int) := of_decide_eq_true (by first | (with_reducible assumption) | assumption); obtain ⟨ad439, e439, hx439_0⟩ := Kd.at_int (Kd.R_reads' HO_6.out).2.2 x23_2 p439 q439; obtain rfl : ad432 = ad439 := (by injection e439); replace p439 := eq_true p439; replace q439 := eq_true q439))
                                                                repeat (go_quiet (first | (go_at_call 20; (with_reducible refine (laws_a2Call.calls (bt t407 x23_2) t438 _ A91.out).mono ?_); rintro e w' ⟨rfl, ⟨nd, rfl⟩⟩; (try first | exact ⟨rfl, _, World.drewN_drewN _ _ _⟩ | exact ⟨rfl, _, Eq.trans (World.drewN_drewN _ _ _) (congrArg (World.drewN _) (Nat.add_assoc _ _ _))⟩); have p439 : 0 ≤ (x23_2 : Int) := of_decide_eq_true (by first | (with_reducible assumption) | assumption); have q439 : x23_2 < (t408.length : Int) := of_decide_eq_true (by first | (with_reducible assumption) | assumption); obtain ⟨ad439, e439, hx439_0⟩ := Kd.at_int (Kd.R_reads' HO_6.out).2.2 x23_2 p439 q439; obtain rfl : ad432 = ad439 := (by injection e439); replace p439 := eq_true p439; replace q439 := eq_true q439)); try go_wp2_with (first | (go_at_call 20; (with_reducible refine (laws_a2Call.calls (bt t407 x23_2) t438 _ A91.out).mono ?_); rintro e w' ⟨rfl, ⟨nd, rfl⟩⟩; (try first | exact ⟨rfl, _, World.drewN_drewN _ _ _⟩ | exact ⟨rfl, _, Eq.trans (World.drewN_drewN _ _ _) (congrArg (World.drewN _) (Nat.add_assoc _ _ _))⟩); have p439 : 0 ≤ (x23_2 : Int) := of_decide_eq_true (by first | (with_reducible assumption) | assumption); have q439 : x23_2 < (t408.length : Int) := of_decide_eq_true (by first | (with_reducible assumption) | assumption); obtain ⟨ad439, e439, hx439_0⟩ := Kd.at_int (Kd.R_reads' HO_6.out).2.2 x23_2 p439 q439; obtain rfl : ad432 = ad439 := (by injection e439); replace p439 := eq_true p439; replace q439 := eq_true q439)))
                                                                go_meet
                                                                case rel => exact ⟨_, ((t438 != (decide ((rd t408 x23_2) > x23_2)))), (by first | rfl | (simp; done) | (simp [*]; done)), H', ⟨by have := HJ12.out; have := HK2.out; have := HJ46.out; have := HJ54.out; have := HJ65.out; have := HJ74.out; first | omega | exact Nat.le_refl _⟩, ⟨by (with_reducible repeat (first | apply Kd.R_alloc | apply Kd.R_drewN | apply Kd.R_drew)); exact HO_6.out⟩, ⟨by (with_reducible repeat (first | apply Kd.R_alloc | apply Kd.R_drewN | apply Kd.R_drew)); exact HO_10.out⟩, ⟨by repeat (first | (with_reducible first | exact HB.out | apply below_alloc | apply pw_below_drewN | apply below_drew1) | exact HB.out)⟩⟩
                                                              · rw [if_neg c89] at H
                                                                exact absurd H (by simp)
                                                            · rw [if_neg c88] at H
                                                              have c88b0 : ((rd t408 (rd t408 x23_2)) == x23_2) = false := beq_eq_false_iff_ne.mpr c88
                                                              have c88b1 : ((rd t408 (rd t408 x23_2)) != x23_2) = true := bne_iff_ne.mpr c88
                                                              have H' := Aside0.mk H
                                                              clear H
                                                              have p436 : 0 ≤ (x23_2 : Int) := of_decide_eq_true (by first | (with_reducible assumption) | assumption)
                                                              have q436 : x23_2 < (t408.length : Int) := of_decide_eq_true (by first | (with_reducible assumption) | assumption)
                                                              obtain ⟨ad436, e436, hx436_0⟩ := Kd.at_int (Kd.R_reads' HO_6.out).2.2 x23_2 p436 q436
                                                              obtain rfl : ad432 = ad436 := (by injection e436)
                                                              replace p436 := eq_true p436
                                                              replace q436 := eq_true q436
                                                              have p437 : 0 ≤ ((rd t408 x23_2) : Int) := of_decide_eq_true (by first | (with_reducible assumption) | assumption)
                                                              have q437 : (rd t408 x23_2) < (t408.length : Int) := of_decide_eq_true (by first | (with_reducible assumption) | assumption)
                                                              obtain ⟨ad437, e437, hx437_0⟩ := Kd.at_int (Kd.R_reads' HO_6.out).2.2 (rd t408 x23_2) p437 q437
                                                              obtain rfl : ad432 = ad437 := (by injection e437)
                                                              replace p437 := eq_true p437
                                                              replace q437 := eq_true q437
                                                              go_wp2
                                                              repeat (go_quiet (fail); try go_wp2)
                                                              go_meet
                                                              case rel => exact ⟨_, (true), (by first | rfl | (simp; done) | (simp [*]; done)), H', ⟨by have := HJ12.out; have := HK2.out; have := HJ46.out; have := HJ54.out; have := HJ65.out; have := HJ74.out; first | omega | exact Nat.le_refl _⟩, ⟨by (with_reducible repeat (first | apply Kd.R_alloc | apply Kd.R_drewN | apply Kd.R_drew)); exact HO_6.out⟩, ⟨by (with_reducible repeat (first | apply Kd.R_alloc | apply Kd.R_drewN | apply Kd.R_drew)); exact HO_10.out⟩, ⟨by repeat (first | (with_reducible first | exact HB.out | apply below_alloc | apply pw_below_drewN | apply below_drew1) | exact HB.out)⟩⟩
                                                          · rw [if_neg c87] at H
                                                            exact absurd H (by simp)
                                                        · rw [if_neg c86] at H
                                                          exact absurd H (by simp)
                                                      case rest =>
                                                        clear HC85
                                                        try clear c1
                                                        try clear c2
                                                        try clear p2
                                                        try clear c3
                                                        try clear c4
                                                        try clear p4
                                                        try clear q4
                                                        try clear hx4
                                                        try clear c5
                                                        try clear p5
                                                        try clear q5
                                                        try clear hx5
                                                        try clear c6
                                                        try clear p6
                                                        try clear c7
                                                        try clear c8
                                                        try clear p9
                                                        try clear q9
                                                        try clear hx9
                                                        try clear c22
                                                        try clear c22b0
                                                        try clear c22b1
                                                        try clear c23
                                                        try clear c23b0
                                                        try clear c23b1
                                                        try clear c24
                                                        try clear c24b0
                                                        try clear c24b1
                                                        try clear c25
                                                        try clear c25b0
                                                        try clear c25b1
                                                        try clear c26
                                                        try clear c26b0
                                                        try clear c26b1
                                                        try clear c27
                                                        try clear c27b0
                                                        try clear c27b1
                                                        try clear c28
                                                        try clear c28b0
                                                        try clear c28b1
                                                        try clear c29
                                                        try clear c29b0
                                                        try clear c29b1
                                                        try clear c29b2
                                                        try clear c30
                                                        try clear c30b0
                                                        try clear c30b1
                                                        try clear c30b2
                                                        try clear c31
                                                        try clear c31b0
                                                        try clear c31b1
                                                        try clear c31b2
                                                        try clear c32
                                                        try clear c32b0
                                                        try clear c32b1
                                                        try clear c33
                                                        try clear c33b0
                                                        try clear c33b1
                                                        try clear c33b2
                                                        try clear p42
                                                        try clear q42
                                                        try clear hx42
                                                        try clear p43
                                                        try clear q43
                                                        try clear hx43
                                                        try clear c45
                                                        try clear c46
                                                        try clear c46b0
                                                        try clear c48
                                                        try clear c48b0
                                                        try clear c48b1
                                                        try clear c49
                                                        try clear c49b0
                                                        try clear p50
                                                        try clear q50
                                                        try clear hx50
                                                        try clear c52
                                                        try clear p53
                                                        try clear q53
                                                        try clear hx53
                                                        try clear c56
                                                        try clear c56b0
                                                        try clear c56b1
                                                        try clear c57
                                                        try clear c57b0
                                                        try clear c58
                                                        try clear c58b0
                                                        try clear c58b1
                                                        try clear c58b2
                                                        try clear c60
                                                        try clear c60b0
                                                        try clear c63
                                                        try clear c64
                                                        try clear c64b0
                                                        try clear p64
                                                        try clear c65
                                                        try clear c65b0
                                                        try clear c68
                                                        try clear c68b0
                                                        try clear c68b1
                                                        try clear c70
                                                        try clear c70b0
                                                        try clear c71
                                                        try clear c71b0
                                                        try clear c72
                                                        try clear c72b0
                                                        try clear c72b1
                                                        try clear c73
                                                        try clear c73b0
                                                        try clear c74
                                                        try clear c74b0
                                                        try clear c77
                                                        try clear c77b0
                                                        try clear c77b1
                                                        try clear c78
                                                        try clear c78b0
                                                        try clear c79
                                                        try clear c79b0
                                                        try clear c79b1
                                                        try clear c80
                                                        try clear c80b0
                                                        try clear c80b1
                                                        try clear c81
                                                        try clear c81b0
                                                        try clear c81b1
                                                        try clear c81b2
                                                        try clear c82
                                                        try clear c82b0
                                                        try clear c83
                                                        try clear c83b0
                                                        try clear c84
                                                        try clear c84b0
                                                        try clear c86
                                                        try clear c86b0
                                                        try clear c86b1
                                                        try clear c87
                                                        try clear c87b0
                                                        try clear c88
                                                        try clear c88b0
                                                        try clear c88b1
                                                        try clear c89
                                                        try clear c89b0
                                                        try clear p90
                                                        try clear q90
                                                        try clear hx90
                                                        try clear hx429_0
                                                        try clear hx430_0
                                                        try clear hx431_0
                                                        try clear hx432_0
                                                        try clear hx433_0
                                                        try clear hx434_0
                                                        try clear hx435_0
                                                        try clear hx436_0
                                                        try clear hx437_0
                                                        try clear hx439_0
                                                        try clear p2
                                                        try clear p4
                                                        try clear p42
                                                        try clear p429
                                                        try clear p43
                                                        try clear p430
                                                        try clear p431
                                                        try clear p432
                                                        try clear p433
                                                        try clear p434
                                                        try clear p435
                                                        try clear p436
                                                        try clear p437
                                                        try clear p439
                                                        try clear p5
                                                        try clear p50
                                                        try clear p53
                                                        try clear p6
                                                        try clear p64
                                                        try clear p90
                                                        try clear q4
                                                        try clear q42
                                                        try clear q429
                                                        try clear q43
                                                        try clear q430
                                                        try clear q431
                                                        try clear q432
                                                        try clear q433
                                                        try clear q434
                                                        try clear q435
                                                        try clear q436
                                                        try clear q437
                                                        try clear q439
                                                        try clear q5
                                                        try clear q50
                                                        try clear q53
                                                        try clear q90
                                                        obtain ⟨kq, x237_84, rfl, HA, HJ84, HO_6, HO_10, HB⟩ := hcut
                                                        cases kq with
                                                        | zero => exact absurd HA.out (by simp [laws_FnMatching.j6])
                                                        | succ kj84 =>
                                                          have H := HA.out
                                                          clear HA
                                                          simp only [laws_FnMatching.j6] at H
                                                          by_cases c92 : x237_84 = true
                                                          · subst c92
                                                            have H1 : (some false) = some r := by rw [if_pos rfl] at H; exact H
                                                            clear H
                                                            have H := H1
                                                            clear H1
                                                            obtain rfl := Option.some.inj H
                                                            go_wp2
                                                            repeat (go_quiet (fail); try go_wp2)
                                                            go_ret
                                                            exact ⟨by first | rfl | (simp [errW_none, errW_some] <;> rfl) | (simp only [← hji69]; first | rfl | (simp [errW_none, errW_some] <;> rfl)) | (simp [*, errW_none, errW_some] <;> rfl), by repeat (first | (with_reducible first | exact HB.out | apply below_alloc | apply pw_below_drewN | apply below_drew1) | exact HB.out)⟩
                                                          · as_aux_lemma =>
                                                            replace c92 := Bool.eq_false_iff.mpr c92
                                                            subst c92
                                                            have H1 : (if 0 ≤ x23_2 then (if x23_2 < (t408.length : Int) then (if (rd t408 x23_2) > x23_2 then ((impl_BodyOf.f kj84 t407 x23_2).bind fun bt441 => (if 0 ≤ (wrap64 (x23_2 + 1)) then (if (wrap64 (x23_2 + 1)) ≤ (rd t408 x23_2) then (if (rd t408 x23_2) ≤ (t407.size : Int) then ((impl_IsMatched.f kj84 (t407.extract ((wrap64 (x23_2 + 1)) : Int).toNat ((rd t408 x23_2) : Int).toNat)).bind fun bt444 => (if bt441.2 = 0 then (if bt444.2 = 0 then (if bt441.1.toList = (t407.extract ((wrap64 (x23_2 + 1)) : Int).toNat ((rd t408 x23_2) : Int).toNat).toList then (if bt444.1 = true then (laws_FnMatching.l0 kj84 t407 t408 t414 t423 x21_74 (t407.size : Int) (wrap64 (x23_2 + 1))) else (some false)) else (some false)) else (some false)) else (some false))) else (none)) else (none)) else (none))) else (laws_FnMatching.l0 kj84 t407 t408 t414 t423 x21_74 (t407.size : Int) (wrap64 (x23_2 + 1)))) else (none)) else (none)) = some r := by rw [if_neg (show ¬ (false = true) by decide)] at H; exact H
                                                            clear H
                                                            have H := H1
                                                            clear H1
                                                            by_cases c93 : 0 ≤ x23_2
                                                            · as_aux_lemma =>
                                                              rw [if_pos c93] at H
                                                              have c93b0 : decide (0 ≤ x23_2) = true := decide_eq_true c93
                                                              clear c93
                                                              by_cases c94 : x23_2 < (t408.length : Int)
                                                              · as_aux_lemma =>
                                                                rw [if_pos c94] at H
                                                                have c94b0 : decide (x23_2 < (t408.length : Int)) = true := decide_eq_true c94
                                                                clear c94
                                                                by_cases c95 : (rd t408 x23_2) > x23_2
                                                                · rw [if_pos c95] at H
                                                                  have c95b0 : decide (x23_2 < (rd t408 x23_2)) = true := decide_eq_true c95
                                                                  clear c95
                                                                  replace H := Option.bind_eq_some_iff.mp H
                                                                  obtain ⟨⟨t441, t442⟩, A960, H⟩ := H
                                                                  replace H : (if 0 ≤ (wrap64 (x23_2 + 1)) then (if (wrap64 (x23_2 + 1)) ≤ (rd t408 x23_2) then (if (rd t408 x23_2) ≤ (t407.size : Int) then ((impl_IsMatched.f kj84 (t407.extract ((wrap64 (x23_2 + 1)) : Int).toNat ((rd t408 x23_2) : Int).toNat)).bind fun bt444 => (if t442 = 0 then (if bt444.2 = 0 then (if t441.toList = (t407.extract ((wrap64 (x23_2 + 1)) : Int).toNat ((rd t408 x23_2) : Int).toNat).toList then (if bt444.1 = true then (laws_FnMatching.l0 kj84 t407 t408 t414 t423 x21_74 (t407.size : Int) (wrap64 (x23_2 + 1))) else (some false)) else (some false)) else (some false)) else (some false))) else (none)) else (none)) else (none)) = some r := H
                                                                  have A96 := Aside0.mk A960
                                                                  clear A960
                                                                  obtain ⟨ji97, hji97⟩ : ∃ j_ : Int, (wrap64 (x23_2 + 1)) = j_ := ⟨_, rfl⟩
                                                                  replace H : (if 0 ≤ (ji97) then (if (ji97) ≤ (rd t408 x23_2) then (if (rd t408 x23_2) ≤ (t407.size : Int) then ((impl_IsMatched.f kj84 (t407.extract ((ji97) : Int).toNat ((rd t408 x23_2) : Int).toNat)).bind fun bt444 => (if t442 = 0 then (if bt444.2 = 0 then (if t441.toList = (t407.extract ((ji97) : Int).toNat ((rd t408 x23_2) : Int).toNat).toList then (if bt444.1 = true then (laws_FnMatching.l0 kj84 t407 t408 t414 t423 x21_74 (t407.size : Int) ji97) else (some false)) else (some false)) else (some false)) else (some false))) else (none)) else (none)) else (none)) = some r := by first | (rw [hji97] at H; exact H) | (simp only [hji97] at H ⊢; exact H)
                                                                  (try rw [hji97] at A96)
                                                                  have hji97w : (IntKind.i64.wrap (x23_2 + 1)) = ji97 := (i64_w _).trans hji97
                                                                  by_cases c98 : 0 ≤ (ji97)
                                                                  · rw [if_pos c98] at H
                                                                    have c98b0 := eq_true c98
                                                                    have c98b1 : decide (0 ≤ (ji97)) = true := decide_eq_true c98
                                                                    clear c98
                                                                    by_cases c99 : (ji97) ≤ (rd t408 x23_2)
                                                                    · rw [if_pos c99] at H
                                                                      have c99b0 := eq_true c99
                                                                      have c99b1 : decide ((ji97) ≤ (rd t408 x23_2)) = true := decide_eq_true c99
                                                                      clear c99
                                                                      by_cases c100 : (rd t408 x23_2) ≤ (t407.size : Int)
                                                                      · rw [if_pos c100] at H
                                                                        have c100b0 := eq_true c100
                                                                        have c100b1 : decide ((rd t408 x23_2) ≤ (t407.size : Int)) = true := decide_eq_true c100
                                                                        clear c100
                                                                        replace H := Option.bind_eq_some_iff.mp H
                                                                        obtain ⟨⟨t444, t445⟩, A1010, H⟩ := H
                                                                        replace H : (if t442 = 0 then (if t445 = 0 then (if t441.toList = (t407.extract ((ji97) : Int).toNat ((rd t408 x23_2) : Int).toNat).toList then (if t444 = true then (laws_FnMatching.l0 kj84 t407 t408 t414 t423 x21_74 (t407.size : Int) ji97) else (some false)) else (some false)) else (some false)) else (some false)) = some r := H
                                                                        have A101 := Aside0.mk A1010
                                                                        clear A1010
                                                                        by_cases c102 : t442 = 0
                                                                        · rw [if_pos c102] at H
                                                                          have c102b0 : (t442 == 0) = true := beq_iff_eq.mpr c102
                                                                          have c102b1 : (t442 != 0) = false := bne_eq_false_iff_eq.mpr c102
                                                                          clear c102
                                                                          by_cases c103 : t445 = 0
                                                                          · rw [if_pos c103] at H
                                                                            have c103b0 : (t445 == 0) = true := beq_iff_eq.mpr c103
                                                                            have c103b1 : (t445 != 0) = false := bne_eq_false_iff_eq.mpr c103
                                                                            clear c103
                                                                            have c104b0 := eq_true (of_decide_eq_true (by first | (with_reducible assumption) | assumption) : 0 ≤ (ji97))
                                                                            have c105b0 := eq_true (of_decide_eq_true (by first | (with_reducible assumption) | assumption) : (ji97) ≤ (rd t408 x23_2))
                                                                            have c106b0 := eq_true (of_decide_eq_true (by first | (with_reducible assumption) | assumption) : (rd t408 x23_2) ≤ (t407.size : Int))
                                                                            by_cases c107 : t441.toList = (t407.extract ((ji97) : Int).toNat ((rd t408 x23_2) : Int).toNat).toList
                                                                            · rw [if_pos c107] at H
                                                                              have c107b0 : (t441.toList == (t407.extract ((ji97) : Int).toNat ((rd t408 x23_2) : Int).toNat).toList) = true := beq_iff_eq.mpr c107
                                                                              have c107b1 : (t441.toList != (t407.extract ((ji97) : Int).toNat ((rd t408 x23_2) : Int).toNat).toList) = false := bne_eq_false_iff_eq.mpr c107
                                                                              clear c107
                                                                              by_cases c108 : t444 = true
                                                                              · subst c108
                                                                                have H1 : (laws_FnMatching.l0 kj84 t407 t408 t414 t423 x21_74 (t407.size : Int) ji97) = some r := by rw [if_pos rfl] at H; exact H
                                                                                clear H
                                                                                have H := H1
                                                                                clear H1
                                                                                have H' := Aside0.mk H
                                                                                clear H
                                                                                have p440 : 0 ≤ (x23_2 : Int) := of_decide_eq_true (by first | (with_reducible assumption) | assumption)
                                                                                have q440 : x23_2 < (t408.length : Int) := of_decide_eq_true (by first | (with_reducible assumption) | assumption)
                                                                                obtain ⟨ad440, e440, hx440_0⟩ := Kd.at_int (Kd.R_reads' HO_6.out).2.2 x23_2 p440 q440
                                                                                obtain rfl : ad432 = ad440 := (by injection e440)
                                                                                replace p440 := eq_true p440
                                                                                replace q440 := eq_true q440
                                                                                go_wp2_with (first | (go_at_call 22; (with_reducible refine (impl_BodyOf.calls kj84 t407 x23_2 t441 t442 _ A96.out).mono ?_); rintro e w109 ⟨rfl, hb⟩; have n0_ := Aside0.mk (Kd.R_below (by (with_reducible repeat (first | apply Kd.R_alloc | apply Kd.R_drewN | apply Kd.R_drew)); exact HO_6.out) hb); have n1_ := Aside0.mk (Kd.R_below (by (with_reducible repeat (first | apply Kd.R_alloc | apply Kd.R_drewN | apply Kd.R_drew)); exact HO_10.out) hb); have n2_ := Aside0.mk (below_step (by repeat (first | (with_reducible first | exact HB.out | apply below_alloc | apply pw_below_drewN | apply below_drew1) | exact HB.out)) hb); clear HO_6; clear HO_10; clear HB; have HO_6 := n0_; have HO_10 := n1_; have HB := n2_; clear n0_ n1_ n2_; (try clear hb); (try clear hb2); (try clear hk); (try clear hi); have p443 : 0 ≤ (x23_2 : Int) := of_decide_eq_true (by first | (with_reducible assumption) | assumption); have q443 : x23_2 < (t408.length : Int) := of_decide_eq_true (by first | (with_reducible assumption) | assumption); obtain ⟨ad443, e443, hx443_0⟩ := Kd.at_int (Kd.R_reads' HO_6.out).2.2 x23_2 p443 q443; obtain rfl : ad432 = ad443 := (by injection e443); replace p443 := eq_true p443; replace q443 := eq_true q443) | (go_at_call 19; (with_reducible refine (impl_IsMatched.calls kj84 (t407.extract ((ji97) : Int).toNat ((rd t408 x23_2) : Int).toNat) true t445 _ A101.out).mono ?_); rintro e w110 ⟨rfl, hb⟩; have n0_ := Aside0.mk (Kd.R_below (by (with_reducible repeat (first | apply Kd.R_alloc | apply Kd.R_drewN | apply Kd.R_drew)); exact HO_6.out) hb); have n1_ := Aside0.mk (Kd.R_below (by (with_reducible repeat (first | apply Kd.R_alloc | apply Kd.R_drewN | apply Kd.R_drew)); exact HO_10.out) hb); have n2_ := Aside0.mk (below_step (by repeat (first | (with_reducible first | exact HB.out | apply below_alloc | apply pw_below_drewN | apply below_drew1) | exact HB.out)) hb); clear HO_6; clear HO_10; clear HB; have HO_6 := n0_; have HO_10 := n1_; have HB := n2_; clear n0_ n1_ n2_; (try clear hb); (try clear hb2); (try clear hk); (try clear hi); have p446 : 0 ≤ (x23_2 : Int) := of_decide_eq_true (by first | (with_reducible assumption) | assumption); have q446 : x23_2 < (t408.length : Int) := of_decide_eq_true (by first | (with_reducible assumption) | assumption); obtain ⟨ad446, e446, hx446_0⟩ := Kd.at_int (Kd.R_reads' HO_6.out).2.2 x23_2 p446 q446; obtain rfl : ad432 = ad446 := (by injection e446); replace p446 := eq_true p446; replace q446 := eq_true q446))
                                                                                repeat (go_quiet (first | (go_at_call 22; (with_reducible refine (impl_BodyOf.calls kj84 t407 x23_2 t441 t442 _ A96.out).mono ?_); rintro e w109 ⟨rfl, hb⟩; have n0_ := Aside0.mk (Kd.R_below (by (with_reducible repeat (first | apply Kd.R_alloc | apply Kd.R_drewN | apply Kd.R_drew)); exact HO_6.out) hb); have n1_ := Aside0.mk (Kd.R_below (by (with_reducible repeat (first | apply Kd.R_alloc | apply Kd.R_drewN | apply Kd.R_drew)); exact HO_10.out) hb); have n2_ := Aside0.mk (below_step (by repeat (first | (with_reducible first | exact HB.out | apply below_alloc | apply pw_below_drewN | apply below_drew1) | exact HB.out)) hb); clear HO_6; clear HO_10; clear HB; have HO_6 := n0_; have HO_10 := n1_; have HB := n2_; clear n0_ n1_ n2_; (try clear hb); (try clear hb2); (try clear hk); (try clear hi); have p443 : 0 ≤ (x23_2 : Int) := of_decide_eq_true (by first | (with_reducible assumption) | assumption); have q443 : x23_2 < (t408.length : Int) := of_decide_eq_true (by first | (with_reducible assumption) | assumption); obtain ⟨ad443, e443, hx443_0⟩ := Kd.at_int (Kd.R_reads' HO_6.out).2.2 x23_2 p443 q443; obtain rfl : ad432 = ad443 := (by injection e443); replace p443 := eq_true p443; replace q443 := eq_true q443) | (go_at_call 19; (with_reducible refine (impl_IsMatched.calls kj84 (t407.extract ((ji97) : Int).toNat ((rd t408 x23_2) : Int).toNat) true t445 _ A101.out).mono ?_); rintro e w110 ⟨rfl, hb⟩; have n0_ := Aside0.mk (Kd.R_below (by (with_reducible repeat (first | apply Kd.R_alloc | apply Kd.R_drewN | apply Kd.R_drew)); exact HO_6.out) hb); have n1_ := Aside0.mk (Kd.R_below (by (with_reducible repeat (first | apply Kd.R_alloc | apply Kd.R_drewN | apply Kd.R_drew)); exact HO_10.out) hb); have n2_ := Aside0.mk (below_step (by repeat (first | (with_reducible first | exact HB.out | apply below_alloc | apply pw_below_drewN | apply below_drew1) | exact HB.out)) hb); clear HO_6; clear HO_10; clear HB; have HO_6 := n0_; have HO_10 := n1_; have HB := n2_; clear n0_ n1_ n2_; (try clear hb); (try clear hb2); (try clear hk); (try clear hi); have p446 : 0 ≤ (x23_2 : Int) := of_decide_eq_true (by first | (with_reducible assumption) | assumption); have q446 : x23_2 < (t408.length : Int) := of_decide_eq_true (by first | (with_reducible assumption) | assumption); obtain ⟨ad446, e446, hx446_0⟩ := Kd.at_int (Kd.R_reads' HO_6.out).2.2 x23_2 p446 q446; obtain rfl : ad432 = ad446 := (by injection e446); replace p446 := eq_true p446; replace q446 := eq_true q446)); try go_wp2_with (first | (go_at_call 22; (with_reducible refine (impl_BodyOf.calls kj84 t407 x23_2 t441 t442 _ A96.out).mono ?_); rintro e w109 ⟨rfl, hb⟩; have n0_ := Aside0.mk (Kd.R_below (by (with_reducible repeat (first | apply Kd.R_alloc | apply Kd.R_drewN | apply Kd.R_drew)); exact HO_6.out) hb); have n1_ := Aside0.mk (Kd.R_below (by (with_reducible repeat (first | apply Kd.R_alloc | apply Kd.R_drewN | apply Kd.R_drew)); exact HO_10.out) hb); have n2_ := Aside0.mk (below_step (by repeat (first | (with_reducible first | exact HB.out | apply below_alloc | apply pw_below_drewN | apply below_drew1) | exact HB.out)) hb); clear HO_6; clear HO_10; clear HB; have HO_6 := n0_; have HO_10 := n1_; have HB := n2_; clear n0_ n1_ n2_; (try clear hb); (try clear hb2); (try clear hk); (try clear hi); have p443 : 0 ≤ (x23_2 : Int) := of_decide_eq_true (by first | (with_reducible assumption) | assumption); have q443 : x23_2 < (t408.length : Int) := of_decide_eq_true (by first | (with_reducible assumption) | assumption); obtain ⟨ad443, e443, hx443_0⟩ := Kd.at_int (Kd.R_reads' HO_6.out).2.2 x23_2 p443 q443; obtain rfl : ad432 = ad443 := (by injection e443); replace p443 := eq_true p443; replace q443 := eq_true q443) | (go_at_call 19; (with_reducible refine (impl_IsMatched.calls kj84 (t407.extract ((ji97) : Int).toNat ((rd t408 x23_2) : Int).toNat) true t445 _ A101.out).mono ?_); rintro e w110 ⟨rfl, hb⟩; have n0_ := Aside0.mk (Kd.R_below (by (with_reducible repeat (first | apply Kd.R_alloc | apply Kd.R_drewN | apply Kd.R_drew)); exact HO_6.out) hb); have n1_ := Aside0.mk (Kd.R_below (by (with_reducible repeat (first | apply Kd.R_alloc | apply Kd.R_drewN | apply Kd.R_drew)); exact HO_10.out) hb); have n2_ := Aside0.mk (below_step (by repeat (first | (with_reducible first | exact HB.out | apply below_alloc | apply pw_below_drewN | apply below_drew1) | exact HB.out)) hb); clear HO_6; clear HO_10; clear HB; have HO_6 := n0_; have HO_10 := n1_; have HB := n2_; clear n0_ n1_ n2_; (try clear hb); (try clear hb2); (try clear hk); (try clear hi); have p446 : 0 ≤ (x23_2 : Int) := of_decide_eq_true (by first | (with_reducible assumption) | assumption); have q446 : x23_2 < (t408.length : Int) := of_decide_eq_true (by first | (with_reducible assumption) | assumption); obtain ⟨ad446, e446, hx446_0⟩ := Kd.at_int (Kd.R_reads' HO_6.out).2.2 x23_2 p446 q446; obtain rfl : ad432 = ad446 := (by injection e446); replace p446 := eq_true p446; replace q446 := eq_true q446)))
                                                                                go_roundg kj84
                                                                                case measure => have := HJ12.out; have := HK2.out; have := HJ46.out; have := HJ54.out; have := HJ65.out; have := HJ74.out; have := HJ84.out; omega
                                                                                case rel => exact ⟨(x21_74), (ji97), (by first | rfl | (simp; done) | (simp [*]; done)), (by first | rfl | (simp; done) | (simp only [← hji97] <;> (first | rfl | simp)) | (simp [*]; done)), H', ⟨by have := HJ12.out; have := HK2.out; have := HJ46.out; have := HJ54.out; have := HJ65.out; have := HJ74.out; have := HJ84.out; omega⟩, ⟨by (with_reducible repeat (first | apply Kd.R_alloc | apply Kd.R_drewN | apply Kd.R_drew)); exact HO_6.out⟩, ⟨by (with_reducible repeat (first | apply Kd.R_alloc | apply Kd.R_drewN | apply Kd.R_drew)); exact HO_10.out⟩, ⟨by repeat (first | (with_reducible first | exact HB.out | apply below_alloc | apply pw_below_drewN | apply below_drew1) | exact HB.out)⟩⟩
                                                                              · replace c108 := Bool.eq_false_iff.mpr c108
                                                                                subst c108
                                                                                have H1 : (some false) = some r := by rw [if_neg (show ¬ (false = true) by decide)] at H; exact H
                                                                                clear H
                                                                                have H := H1
                                                                                clear H1
                                                                                obtain rfl := Option.some.inj H
                                                                                have p440 : 0 ≤ (x23_2 : Int) := of_decide_eq_true (by first | (with_reducible assumption) | assumption)
                                                                                have q440 : x23_2 < (t408.length : Int) := of_decide_eq_true (by first | (with_reducible assumption) | assumption)
                                                                                obtain ⟨ad440, e440, hx440_0⟩ := Kd.at_int (Kd.R_reads' HO_6.out).2.2 x23_2 p440 q440
                                                                                obtain rfl : ad432 = ad440 := (by injection e440)
                                                                                replace p440 := eq_true p440
                                                                                replace q440 := eq_true q440
                                                                                go_wp2_with (first | (go_at_call 22; (with_reducible refine (impl_BodyOf.calls kj84 t407 x23_2 t441 t442 _ A96.out).mono ?_); rintro e w111 ⟨rfl, hb⟩; have n0_ := Aside0.mk (Kd.R_below (by (with_reducible repeat (first | apply Kd.R_alloc | apply Kd.R_drewN | apply Kd.R_drew)); exact HO_6.out) hb); have n1_ := Aside0.mk (Kd.R_below (by (with_reducible repeat (first | apply Kd.R_alloc | apply Kd.R_drewN | apply Kd.R_drew)); exact HO_10.out) hb); have n2_ := Aside0.mk (below_step (by repeat (first | (with_reducible first | exact HB.out | apply below_alloc | apply pw_below_drewN | apply below_drew1) | exact HB.out)) hb); clear HO_6; clear HO_10; clear HB; have HO_6 := n0_; have HO_10 := n1_; have HB := n2_; clear n0_ n1_ n2_; (try clear hb); (try clear hb2); (try clear hk); (try clear hi); have p443 : 0 ≤ (x23_2 : Int) := of_decide_eq_true (by first | (with_reducible assumption) | assumption); have q443 : x23_2 < (t408.length : Int) := of_decide_eq_true (by first | (with_reducible assumption) | assumption); obtain ⟨ad443, e443, hx443_0⟩ := Kd.at_int (Kd.R_reads' HO_6.out).2.2 x23_2 p443 q443; obtain rfl : ad432 = ad443 := (by injection e443); replace p443 := eq_true p443; replace q443 := eq_true q443) | (go_at_call 19; (with_reducible refine (impl_IsMatched.calls kj84 (t407.extract ((ji97) : Int).toNat ((rd t408 x23_2) : Int).toNat) false t445 _ A101.out).mono ?_); rintro e w112 ⟨rfl, hb⟩; have n0_ := Aside0.mk (Kd.R_below (by (with_reducible repeat (first | apply Kd.R_alloc | apply Kd.R_drewN | apply Kd.R_drew)); exact HO_6.out) hb); have n1_ := Aside0.mk (Kd.R_below (by (with_reducible repeat (first | apply Kd.R_alloc | apply Kd.R_drewN | apply Kd.R_drew)); exact HO_10.out) hb); have n2_ := Aside0.mk (below_step (by repeat (first | (with_reducible first | exact HB.out | apply below_alloc | apply pw_below_drewN | apply below_drew1) | exact HB.out)) hb); clear HO_6; clear HO_10; clear HB; have HO_6 := n0_; have HO_10 := n1_; have HB := n2_; clear n0_ n1_ n2_; (try clear hb); (try clear hb2); (try clear hk); (try clear hi); have p446 : 0 ≤ (x23_2 : Int) := of_decide_eq_true (by first | (with_reducible assumption) | assumption); have q446 : x23_2 < (t408.length : Int) := of_decide_eq_true (by first | (with_reducible assumption) | assumption); obtain ⟨ad446, e446, hx446_0⟩ := Kd.at_int (Kd.R_reads' HO_6.out).2.2 x23_2 p446 q446; obtain rfl : ad432 = ad446 := (by injection e446); replace p446 := eq_true p446; replace q446 := eq_true q446))
                                                                                repeat (go_quiet (first | (go_at_call 22; (with_reducible refine (impl_BodyOf.calls kj84 t407 x23_2 t441 t442 _ A96.out).mono ?_); rintro e w111 ⟨rfl, hb⟩; have n0_ := Aside0.mk (Kd.R_below (by (with_reducible repeat (first | apply Kd.R_alloc | apply Kd.R_drewN | apply Kd.R_drew)); exact HO_6.out) hb); have n1_ := Aside0.mk (Kd.R_below (by (with_reducible repeat (first | apply Kd.R_alloc | apply Kd.R_drewN | apply Kd.R_drew)); exact HO_10.out) hb); have n2_ := Aside0.mk (below_step (by repeat (first | (with_reducible first | exact HB.out | apply below_alloc | apply pw_below_drewN | apply below_drew1) | exact HB.out)) hb); clear HO_6; clear HO_10; clear HB; have HO_6 := n0_; have HO_10 := n1_; have HB := n2_; clear n0_ n1_ n2_; (try clear hb); (try clear hb2); (try clear hk); (try clear hi); have p443 : 0 ≤ (x23_2 : Int) := of_decide_eq_true (by first | (with_reducible assumption) | assumption); have q443 : x23_2 < (t408.length : Int) := of_decide_eq_true (by first | (with_reducible assumption) | assumption); obtain ⟨ad443, e443, hx443_0⟩ := Kd.at_int (Kd.R_reads' HO_6.out).2.2 x23_2 p443 q443; obtain rfl : ad432 = ad443 := (by injection e443); replace p443 := eq_true p443; replace q443 := eq_true q443) | (go_at_call 19; (with_reducible refine (impl_IsMatched.calls kj84 (t407.extract ((ji97) : Int).toNat ((rd t408 x23_2) : Int).toNat) false t445 _ A101.out).mono ?_); rintro e w112 ⟨rfl, hb⟩; have n0_ := Aside0.mk (Kd.R_below (by (with_reducible repeat (first | apply Kd.R_alloc | apply Kd.R_drewN | apply Kd.R_drew)); exact HO_6.out) hb); have n1_ := Aside0.mk (Kd.R_below (by (with_reducible repeat (first | apply Kd.R_alloc | apply Kd.R_drewN | apply Kd.R_drew)); exact HO_10.out) hb); have n2_ := Aside0.mk (below_step (by repeat (first | (with_reducible first | exact HB.out | apply below_alloc | apply pw_below_drewN | apply below_drew1) | exact HB.out)) hb); clear HO_6; clear HO_10; clear HB; have HO_6 := n0_; have HO_10 := n1_; have HB := n2_; clear n0_ n1_ n2_; (try clear hb); (try clear hb2); (try clear hk); (try clear hi); have p446 : 0 ≤ (x23_2 : Int) := of_decide_eq_true (by first | (with_reducible assumption) | assumption); have q446 : x23_2 < (t408.length : Int) := of_decide_eq_true (by first | (with_reducible assumption) | assumption); obtain ⟨ad446, e446, hx446_0⟩ := Kd.at_int (Kd.R_reads' HO_6.out).2.2 x23_2 p446 q446; obtain rfl : ad432 = ad446 := (by injection e446); replace p446 := eq_true p446; replace q446 := eq_true q446)); try go_wp2_with (first | (go_at_call 22; (with_reducible refine (impl_BodyOf.calls kj84 t407 x23_2 t441 t442 _ A96.out).mono ?_); rintro e w111 ⟨rfl, hb⟩; have n0_ := Aside0.mk (Kd.R_below (by (with_reducible repeat (first | apply Kd.R_alloc | apply Kd.R_drewN | apply Kd.R_drew)); exact HO_6.out) hb); have n1_ := Aside0.mk (Kd.R_below (by (with_reducible repeat (first | apply Kd.R_alloc | apply Kd.R_drewN | apply Kd.R_drew)); exact HO_10.out) hb); have n2_ := Aside0.mk (below_step (by repeat (first | (with_reducible first | exact HB.out | apply below_alloc | apply pw_below_drewN | apply below_drew1) | exact HB.out)) hb); clear HO_6; clear HO_10; clear HB; have HO_6 := n0_; have HO_10 := n1_; have HB := n2_; clear n0_ n1_ n2_; (try clear hb); (try clear hb2); (try clear hk); (try clear hi); have p443 : 0 ≤ (x23_2 : Int) := of_decide_eq_true (by first | (with_reducible assumption) | assumption); have q443 : x23_2 < (t408.length : Int) := of_decide_eq_true (by first | (with_reducible assumption) | assumption); obtain ⟨ad443, e443, hx443_0⟩ := Kd.at_int (Kd.R_reads' HO_6.out).2.2 x23_2 p443 q443; obtain rfl : ad432 = ad443 := (by injection e443); replace p443 := eq_true p443; replace q443 := eq_true q443) | (go_at_call 19; (with_reducible refine (impl_IsMatched.calls kj84 (t407.extract ((ji97) : Int).toNat ((rd t408 x23_2) : Int).toNat) false t445 _ A101.out).mono ?_); rintro e w112 ⟨rfl, hb⟩; have n0_ := Aside0.mk (Kd.R_below (by (with_reducible repeat (first | apply Kd.R_alloc | apply Kd.R_drewN | apply Kd.R_drew)); exact HO_6.out) hb); have n1_ := Aside0.mk (Kd.R_below (by (with_reducible repeat (first | apply Kd.R_alloc | apply Kd.R_drewN | apply Kd.R_drew)); exact HO_10.out) hb); have n2_ := Aside0.mk (below_step (by repeat (first | (with_reducible first | exact HB.out | apply below_alloc | apply pw_below_drewN | apply below_drew1) | exact HB.out)) hb); clear HO_6; clear HO_10; clear HB; have HO_6 := n0_; have HO_10 := n1_; have HB := n2_; clear n0_ n1_ n2_; (try clear hb); (try clear hb2); (try clear hk); (try clear hi); have p446 : 0 ≤ (x23_2 : Int) := of_decide_eq_true (by first | (with_reducible assumption) | assumption); have q446 : x23_2 < (t408.length : Int) := of_decide_eq_true (by first | (with_reducible assumption) | assumption); obtain ⟨ad446, e446, hx446_0⟩ := Kd.at_int (Kd.R_reads' HO_6.out).2.2 x23_2 p446 q446; obtain rfl : ad432 = ad446 := (by injection e446); replace p446 := eq_true p446; replace q446 := eq_true q446)))
                                                                                go_ret
                                                                                exact ⟨by first | rfl | (simp [errW_none, errW_some] <;> rfl) | (simp only [← hji69, ← hji97]; first | rfl | (simp [errW_none, errW_some] <;> rfl)) | (simp [*, errW_none, errW_some] <;> rfl), by repeat (first | (with_reducible first | exact HB.out | apply below_alloc | apply pw_below_drewN | apply below_drew1) | exact HB.out)⟩
                                                                            · rw [if_neg c107] at H
                                                                              have c107b0 : (t441.toList == (t407.extract ((ji97) : Int).toNat ((rd t408 x23_2) : Int).toNat).toList) = false := beq_eq_false_iff_ne.mpr c107
                                                                              have c107b1 : (t441.toList != (t407.extract ((ji97) : Int).toNat ((rd t408 x23_2) : Int).toNat).toList) = true := bne_iff_ne.mpr c107
                                                                              obtain rfl := Option.some.inj H
                                                                              have p440 : 0 ≤ (x23_2 : Int) := of_decide_eq_true (by first | (with_reducible assumption) | assumption)
                                                                              have q440 : x23_2 < (t408.length : Int) := of_decide_eq_true (by first | (with_reducible assumption) | assumption)
                                                                              obtain ⟨ad440, e440, hx440_0⟩ := Kd.at_int (Kd.R_reads' HO_6.out).2.2 x23_2 p440 q440
                                                                              obtain rfl : ad432 = ad440 := (by injection e440)
                                                                              replace p440 := eq_true p440
                                                                              replace q440 := eq_true q440
                                                                              go_wp2_with (first | (go_at_call 22; (with_reducible refine (impl_BodyOf.calls kj84 t407 x23_2 t441 t442 _ A96.out).mono ?_); rintro e w113 ⟨rfl, hb⟩; have n0_ := Aside0.mk (Kd.R_below (by (with_reducible repeat (first | apply Kd.R_alloc | apply Kd.R_drewN | apply Kd.R_drew)); exact HO_6.out) hb); have n1_ := Aside0.mk (Kd.R_below (by (with_reducible repeat (first | apply Kd.R_alloc | apply Kd.R_drewN | apply Kd.R_drew)); exact HO_10.out) hb); have n2_ := Aside0.mk (below_step (by repeat (first | (with_reducible first | exact HB.out | apply below_alloc | apply pw_below_drewN | apply below_drew1) | exact HB.out)) hb); clear HO_6; clear HO_10; clear HB; have HO_6 := n0_; have HO_10 := n1_; have HB := n2_; clear n0_ n1_ n2_; (try clear hb); (try clear hb2); (try clear hk); (try clear hi); have p443 : 0 ≤ (x23_2 : Int) := of_decide_eq_true (by first | (with_reducible assumption) | assumption); have q443 : x23_2 < (t408.length : Int) := of_decide_eq_true (by first | (with_reducible assumption) | assumption); obtain ⟨ad443, e443, hx443_0⟩ := Kd.at_int (Kd.R_reads' HO_6.out).2.2 x23_2 p443 q443; obtain rfl : ad432 = ad443 := (by injection e443); replace p443 := eq_true p443; replace q443 := eq_true q443) | (go_at_call 19; (with_reducible refine (impl_IsMatched.calls kj84 (t407.extract ((ji97) : Int).toNat ((rd t408 x23_2) : Int).toNat) t444 t445 _ A101.out).mono ?_); rintro e w114 ⟨rfl, hb⟩; have n0_ := Aside0.mk (Kd.R_below (by (with_reducible repeat (first | apply Kd.R_alloc | apply Kd.R_drewN | apply Kd.R_drew)); exact HO_6.out) hb); have n1_ := Aside0.mk (Kd.R_below (by (with_reducible repeat (first | apply Kd.R_alloc | apply Kd.R_drewN | apply Kd.R_drew)); exact HO_10.out) hb); have n2_ := Aside0.mk (below_step (by repeat (first | (with_reducible first | exact HB.out | apply below_alloc | apply pw_below_drewN | apply below_drew1) | exact HB.out)) hb); clear HO_6; clear HO_10; clear HB; have HO_6 := n0_; have HO_10 := n1_; have HB := n2_; clear n0_ n1_ n2_; (try clear hb); (try clear hb2); (try clear hk); (try clear hi); have p446 : 0 ≤ (x23_2 : Int) := of_decide_eq_true (by first | (with_reducible assumption) | assumption); have q446 : x23_2 < (t408.length : Int) := of_decide_eq_true (by first | (with_reducible assumption) | assumption); obtain ⟨ad446, e446, hx446_0⟩ := Kd.at_int (Kd.R_reads' HO_6.out).2.2 x23_2 p446 q446; obtain rfl : ad432 = ad446 := (by injection e446); replace p446 := eq_true p446; replace q446 := eq_true q446))
                                                                              repeat (go_quiet (first | (go_at_call 22; (with_reducible refine (impl_BodyOf.calls kj84 t407 x23_2 t441 t442 _ A96.out).mono ?_); rintro e w113 ⟨rfl, hb⟩; have n0_ := Aside0.mk (Kd.R_below (by (with_reducible repeat (first | apply Kd.R_alloc | apply Kd.R_drewN | apply Kd.R_drew)); exact HO_6.out) hb); have n1_ := Aside0.mk (Kd.R_below (by (with_reducible repeat (first | apply Kd.R_alloc | apply Kd.R_drewN | apply Kd.R_drew)); exact HO_10.out) hb); have n2_ := Aside0.mk (below_step (by repeat (first | (with_reducible first | exact HB.out | apply below_alloc | apply pw_below_drewN | apply below_drew1) | exact HB.out)) hb); clear HO_6; clear HO_10; clear HB; have HO_6 := n0_; have HO_10 := n1_; have HB := n2_; clear n0_ n1_ n2_; (try clear hb); (try clear hb2); (try clear hk); (try clear hi); have p443 : 0 ≤ (x23_2 : Int) := of_decide_eq_true (by first | (with_reducible assumption) | assumption); have q443 : x23_2 < (t408.length : Int) := of_decide_eq_true (by first | (with_reducible assumption) | assumption); obtain ⟨ad443, e443, hx443_0⟩ := Kd.at_int (Kd.R_reads' HO_6.out).2.2 x23_2 p443 q443; obtain rfl : ad432 = ad443 := (by injection e443); replace p443 := eq_true p443; replace q443 := eq_true q443) | (go_at_call 19; (with_reducible refine (impl_IsMatched.calls kj84 (t407.extract ((ji97) : Int).toNat ((rd t408 x23_2) : Int).toNat) t444 t445 _ A101.out).mono ?_); rintro e w114 ⟨rfl, hb⟩; have n0_ := Aside0.mk (Kd.R_below (by (with_reducible repeat (first | apply Kd.R_alloc | apply Kd.R_drewN | apply Kd.R_drew)); exact HO_6.out) hb); have n1_ := Aside0.mk (Kd.R_below (by (with_reducible repeat (first | apply Kd.R_alloc | apply Kd.R_drewN | apply Kd.R_drew)); exact HO_10.out) hb); have n2_ := Aside0.mk (below_step (by repeat (first | (with_reducible first | exact HB.out | apply below_alloc | apply pw_below_drewN | apply below_drew1) | exact HB.out)) hb); clear HO_6; clear HO_10; clear HB; have HO_6 := n0_; have HO_10 := n1_; have HB := n2_; clear n0_ n1_ n2_; (try clear hb); (try clear hb2); (try clear hk); (try clear hi); have p446 : 0 ≤ (x23_2 : Int) := of_decide_eq_true (by first | (with_reducible assumption) | assumption); have q446 : x23_2 < (t408.length : Int) := of_decide_eq_true (by first | (with_reducible assumption) | assumption); obtain ⟨ad446, e446, hx446_0⟩ := Kd.at_int (Kd.R_reads' HO_6.out).2.2 x23_2 p446 q446; obtain rfl : ad432 = ad446 := (by injection e446); replace p446 := eq_true p446; replace q446 := eq_true q446)); try go_wp2_with (first | (go_at_call 22; (with_reducible refine (impl_BodyOf.calls kj84 t407 x23_2 t441 t442 _ A96.out).mono ?_); rintro e w113 ⟨rfl, hb⟩; have n0_ := Aside0.mk (Kd.R_below (by (with_reducible repeat (first | apply Kd.R_alloc | apply Kd.R_drewN | apply Kd.R_drew)); exact HO_6.out) hb); have n1_ := Aside0.mk (Kd.R_below (by (with_reducible repeat (first | apply Kd.R_alloc | apply Kd.R_drewN | apply Kd.R_drew)); exact HO_10.out) hb); have n2_ := Aside0.mk (below_step (by repeat (first | (with_reducible first | exact HB.out | apply below_alloc | apply pw_below_drewN | apply below_drew1) | exact HB.out)) hb); clear HO_6; clear HO_10; clear HB; have HO_6 := n0_; have HO_10 := n1_; have HB := n2_; clear n0_ n1_ n2_; (try clear hb); (try clear hb2); (try clear hk); (try clear hi); have p443 : 0 ≤ (x23_2 : Int) := of_decide_eq_true (by first | (with_reducible assumption) | assumption); have q443 : x23_2 < (t408.length : Int) := of_decide_eq_true (by first | (with_reducible assumption) | assumption); obtain ⟨ad443, e443, hx443_0⟩ := Kd.at_int (Kd.R_reads' HO_6.out).2.2 x23_2 p443 q443; obtain rfl : ad432 = ad443 := (by injection e443); replace p443 := eq_true p443; replace q443 := eq_true q443) | (go_at_call 19; (with_reducible refine (impl_IsMatched.calls kj84 (t407.extract ((ji97) : Int).toNat ((rd t408 x23_2) : Int).toNat) t444 t445 _ A101.out).mono ?_); rintro e w114 ⟨rfl, hb⟩; have n0_ := Aside0.mk (Kd.R_below (by (with_reducible repeat (first | apply Kd.R_alloc | apply Kd.R_drewN | apply Kd.R_drew)); exact HO_6.out) hb); have n1_ := Aside0.mk (Kd.R_below (by (with_reducible repeat (first | apply Kd.R_alloc | apply Kd.R_drewN | apply Kd.R_drew)); exact HO_10.out) hb); have n2_ := Aside0.mk (below_step (by repeat (first | (with_reducible first | exact HB.out | apply below_alloc | apply pw_below_drewN | apply below_drew1) | exact HB.out)) hb); clear HO_6; clear HO_10; clear HB; have HO_6 := n0_; have HO_10 := n1_; have HB := n2_; clear n0_ n1_ n2_; (try clear hb); (try clear hb2); (try clear hk); (try clear hi); have p446 : 0 ≤ (x23_2 : Int) := of_decide_eq_true (by first | (with_reducible assumption) | assumption); have q446 : x23_2 < (t408.length : Int) := of_decide_eq_true (by first | (with_reducible assumption) | assumption); obtain ⟨ad446, e446, hx446_0⟩ := Kd.at_int (Kd.R_reads' HO_6.out).2.2 x23_2 p446 q446; obtain rfl : ad432 = ad446 := (by injection e446); replace p446 := eq_true p446; replace q446 := eq_true q446)))
                                                                              go_ret
                                                                              exact ⟨by first | rfl | (simp [errW_none, errW_some] <;> rfl) | (simp only [← hji69, ← hji97]; first | rfl | (simp [errW_none, errW_some] <;> rfl)) | (simp [*, errW_none, errW_some] <;> rfl), by repeat (first | (with_reducible first | exact HB.out | apply below_alloc | apply pw_below_drewN | apply below_drew1) | exact HB.out)⟩
                                                                          · rw [if_neg c103] at H
                                                                            have c103b0 : (t445 == 0) = false := beq_eq_false_iff_ne.mpr c103
                                                                            have c103b1 : (t445 != 0) = true := bne_iff_ne.mpr c103
                                                                            obtain rfl := Option.some.inj H
                                                                            have p440 : 0 ≤ (x23_2 : Int) := of_decide_eq_true (by first | (with_reducible assumption) | assumption)
                                                                            have q440 : x23_2 < (t408.length : Int) := of_decide_eq_true (by first | (with_reducible assumption) | assumption)
                                                                            obtain ⟨ad440, e440, hx440_0⟩ := Kd.at_int (Kd.R_reads' HO_6.out).2.2 x23_2 p440 q440
                                                                            obtain rfl : ad432 = ad440 := (by injection e440)
                                                                            replace p440 := eq_true p440
                                                                            replace q440 := eq_true q440
                                                                            go_wp2_with (first | (go_at_call 22; (with_reducible refine (impl_BodyOf.calls kj84 t407 x23_2 t441 t442 _ A96.out).mono ?_); rintro e w115 ⟨rfl, hb⟩; have n0_ := Aside0.mk (Kd.R_below (by (with_reducible repeat (first | apply Kd.R_alloc | apply Kd.R_drewN | apply Kd.R_drew)); exact HO_6.out) hb); have n1_ := Aside0.mk (Kd.R_below (by (with_reducible repeat (first | apply Kd.R_alloc | apply Kd.R_drewN | apply Kd.R_drew)); exact HO_10.out) hb); have n2_ := Aside0.mk (below_step (by repeat (first | (with_reducible first | exact HB.out | apply below_alloc | apply pw_below_drewN | apply below_drew1) | exact HB.out)) hb); clear HO_6; clear HO_10; clear HB; have HO_6 := n0_; have HO_10 := n1_; have HB := n2_; clear n0_ n1_ n2_; (try clear hb); (try clear hb2); (try clear hk); (try clear hi); have p443 : 0 ≤ (x23_2 : Int) := of_decide_eq_true (by first | (with_reducible assumption) | assumption); have q443 : x23_2 < (t408.length : Int) := of_decide_eq_true (by first | (with_reducible assumption) | assumption); obtain ⟨ad443, e443, hx443_0⟩ := Kd.at_int (Kd.R_reads' HO_6.out).2.2 x23_2 p443 q443; obtain rfl : ad432 = ad443 := (by injection e443); replace p443 := eq_true p443; replace q443 := eq_true q443) | (go_at_call 19; (with_reducible refine (impl_IsMatched.calls kj84 (t407.extract ((ji97) : Int).toNat ((rd t408 x23_2) : Int).toNat) t444 t445 _ A101.out).mono ?_); rintro e w116 ⟨rfl, hb⟩; have n0_ := Aside0.mk (Kd.R_below (by (with_reducible repeat (first | apply Kd.R_alloc | apply Kd.R_drewN | apply Kd.R_drew)); exact HO_6.out) hb); have n1_ := Aside0.mk (Kd.R_below (by (with_reducible repeat (first | apply Kd.R_alloc | apply Kd.R_drewN | apply Kd.R_drew)); exact HO_10.out) hb); have n2_ := Aside0.mk (below_step (by repeat (first | (with_reducible first | exact HB.out | apply below_alloc | apply pw_below_drewN | apply below_drew1) | exact HB.out)) hb); clear HO_6; clear HO_10; clear HB; have HO_6 := n0_; have HO_10 := n1_; have HB := n2_; clear n0_ n1_ n2_; (try clear hb); (try clear hb2); (try clear hk); (try clear hi)))
                                                                            repeat (go_quiet (first | (go_at_call 22; (with_reducible refine (impl_BodyOf.calls kj84 t407 x23_2 t441 t442 _ A96.out).mono ?_); rintro e w115 ⟨rfl, hb⟩; have n0_ := Aside0.mk (Kd.R_below (by (with_reducible repeat (first | apply Kd.R_alloc | apply Kd.R_drewN | apply Kd.R_drew)); exact HO_6.out) hb); have n1_ := Aside0.mk (Kd.R_below (by (with_reducible repeat (first | apply Kd.R_alloc | apply Kd.R_drewN | apply Kd.R_drew)); exact HO_10.out) hb); have n2_ := Aside0.mk (below_step (by repeat (first | (with_reducible first | exact HB.out | apply below_alloc | apply pw_below_drewN | apply below_drew1) | exact HB.out)) hb); clear HO_6; clear HO_10; clear HB; have HO_6 := n0_; have HO_10 := n1_; have HB := n2_; clear n0_ n1_ n2_; (try clear hb); (try clear hb2); (try clear hk); (try clear hi); have p443 : 0 ≤ (x23_2 : Int) := of_decide_eq_true (by first | (with_reducible assumption) | assumption); have q443 : x23_2 < (t408.length : Int) := of_decide_eq_true (by first | (with_reducible assumption) | assumption); obtain ⟨ad443, e443, hx443_0⟩ := Kd.at_int (Kd.R_reads' HO_6.out).2.2 x23_2 p443 q443; obtain rfl : ad432 = ad443 := (by injection e443); replace p443 := eq_true p443; replace q443 := eq_true q443) | (go_at_call 19; (with_reducible refine (impl_IsMatched.calls kj84 (t407.extract ((ji97) : Int).toNat ((rd t408 x23_2) : Int).toNat) t444 t445 _ A101.out).mono ?_); rintro e w116 ⟨rfl, hb⟩; have n0_ := Aside0.mk (Kd.R_below (by (with_reducible repeat (first | apply Kd.R_alloc | apply Kd.R_drewN | apply Kd.R_drew)); exact HO_6.out) hb); have n1_ := Aside0.mk (Kd.R_below (by (with_reducible repeat (first | apply Kd.R_alloc | apply Kd.R_drewN | apply Kd.R_drew)); exact HO_10.out) hb); have n2_ := Aside0.mk (below_step (by repeat (first | (with_reducible first | exact HB.out | apply below_alloc | apply pw_below_drewN | apply below_drew1) | exact HB.out)) hb); clear HO_6; clear HO_10; clear HB; have HO_6 := n0_; have HO_10 := n1_; have HB := n2_; clear n0_ n1_ n2_; (try clear hb); (try clear hb2); (try clear hk); (try clear hi))); try go_wp2_with (first | (go_at_call 22; (with_reducible refine (impl_BodyOf.calls kj84 t407 x23_2 t441 t442 _ A96.out).mono ?_); rintro e w115 ⟨rfl, hb⟩; have n0_ := Aside0.mk (Kd.R_below (by (with_reducible repeat (first | apply Kd.R_alloc | apply Kd.R_drewN | apply Kd.R_drew)); exact HO_6.out) hb); have n1_ := Aside0.mk (Kd.R_below (by (with_reducible repeat (first | apply Kd.R_alloc | apply Kd.R_drewN | apply Kd.R_drew)); exact HO_10.out) hb); have n2_ := Aside0.mk (below_step (by repeat (first | (with_reducible first | exact HB.out | apply below_alloc | apply pw_below_drewN | apply below_drew1) | exact HB.out)) hb); clear HO_6; clear HO_10; clear HB; have HO_6 := n0_; have HO_10 := n1_; have HB := n2_; clear n0_ n1_ n2_; (try clear hb); (try clear hb2); (try clear hk); (try clear hi); have p443 : 0 ≤ (x23_2 : Int) := of_decide_eq_true (by first | (with_reducible assumption) | assumption); have q443 : x23_2 < (t408.length : Int) := of_decide_eq_true (by first | (with_reducible assumption) | assumption); obtain ⟨ad443, e443, hx443_0⟩ := Kd.at_int (Kd.R_reads' HO_6.out).2.2 x23_2 p443 q443; obtain rfl : ad432 = ad443 := (by injection e443); replace p443 := eq_true p443; replace q443 := eq_true q443) | (go_at_call 19; (with_reducible refine (impl_IsMatched.calls kj84 (t407.extract ((ji97) : Int).toNat ((rd t408 x23_2) : Int).toNat) t444 t445 _ A101.out).mono ?_); rintro e w116 ⟨rfl, hb⟩; have n0_ := Aside0.mk (Kd.R_below (by (with_reducible repeat (first | apply Kd.R_alloc | apply Kd.R_drewN | apply Kd.R_drew)); exact HO_6.out) hb); have n1_ := Aside0.mk (Kd.R_below (by (with_reducible repeat (first | apply Kd.R_alloc | apply Kd.R_drewN | apply Kd.R_drew)); exact HO_10.out) hb); have n2_ := Aside0.mk (below_step (by repeat (first | (with_reducible first | exact HB.out | apply below_alloc | apply pw_below_drewN | apply below_drew1) | exact HB.out)) hb); clear HO_6; clear HO_10; clear HB; have HO_6 := n0_; have HO_10 := n1_; have HB := n2_; clear n0_ n1_ n2_; (try clear hb); (try clear hb2); (try clear hk); (try clear hi))))
                                                                            go_ret
                                                                            exact ⟨by first | rfl | (simp [errW_none, errW_some] <;> rfl) | (simp only [← hji69, ← hji97]; first | rfl | (simp [errW_none, errW_some] <;> rfl)) | (simp [*, errW_none, errW_some] <;> rfl), by repeat (first | (with_reducible first | exact HB.out | apply below_alloc | apply pw_below_drewN | apply below_drew1) | exact HB.out)⟩
                                                                        · rw [if_neg c102] at H
                                                                          have c102b0 : (t442 == 0) = false := beq_eq_false_iff_ne.mpr c102
                                                                          have c102b1 : (t442 != 0) = true := bne_iff_ne.mpr c102
                                                                          obtain rfl := Option.some.inj H
                                                                          have p440 : 0 ≤ (x23_2 : Int) := of_decide_eq_true (by first | (with_reducible assumption) | assumption)
                                                                          have q440 : x23_2 < (t408.length : Int) := of_decide_eq_true (by first | (with_reducible assumption) | assumption)
                                                                          obtain ⟨ad440, e440, hx440_0⟩ := Kd.at_int (Kd.R_reads' HO_6.out).2.2 x23_2 p440 q440
                                                                          obtain rfl : ad432 = ad440 := (by injection e440)
                                                                          replace p440 := eq_true p440
                                                                          replace q440 := eq_true q440
                                                                          go_wp2_with (first | (go_at_call 22; (with_reducible refine (impl_BodyOf.calls kj84 t407 x23_2 t441 t442 _ A96.out).mono ?_); rintro e w117 ⟨rfl, hb⟩; have n0_ := Aside0.mk (Kd.R_below (by (with_reducible repeat (first | apply Kd.R_alloc | apply Kd.R_drewN | apply Kd.R_drew)); exact HO_6.out) hb); have n1_ := Aside0.mk (Kd.R_below (by (with_reducible repeat (first | apply Kd.R_alloc | apply Kd.R_drewN | apply Kd.R_drew)); exact HO_10.out) hb); have n2_ := Aside0.mk (below_step (by repeat (first | (with_reducible first | exact HB.out | apply below_alloc | apply pw_below_drewN | apply below_drew1) | exact HB.out)) hb); clear HO_6; clear HO_10; clear HB; have HO_6 := n0_; have HO_10 := n1_; have HB := n2_; clear n0_ n1_ n2_; (try clear hb); (try clear hb2); (try clear hk); (try clear hi); have p443 : 0 ≤ (x23_2 : Int) := of_decide_eq_true (by first | (with_reducible assumption) | assumption); have q443 : x23_2 < (t408.length : Int) := of_decide_eq_true (by first | (with_reducible assumption) | assumption); obtain ⟨ad443, e443, hx443_0⟩ := Kd.at_int (Kd.R_reads' HO_6.out).2.2 x23_2 p443 q443; obtain rfl : ad432 = ad443 := (by injection e443); replace p443 := eq_true p443; replace q443 := eq_true q443) | (go_at_call 19; (with_reducible refine (impl_IsMatched.calls kj84 (t407.extract ((ji97) : Int).toNat ((rd t408 x23_2) : Int).toNat) t444 t445 _ A101.out).mono ?_); rintro e w118 ⟨rfl, hb⟩; have n0_ := Aside0.mk (Kd.R_below (by (with_reducible repeat (first | apply Kd.R_alloc | apply Kd.R_drewN | apply Kd.R_drew)); exact HO_6.out) hb); have n1_ := Aside0.mk (Kd.R_below (by (with_reducible repeat (first | apply Kd.R_alloc | apply Kd.R_drewN | apply Kd.R_drew)); exact HO_10.out) hb); have n2_ := Aside0.mk (below_step (by repeat (first | (with_reducible first | exact HB.out | apply below_alloc | apply pw_below_drewN | apply below_drew1) | exact HB.out)) hb); clear HO_6; clear HO_10; clear HB; have HO_6 := n0_; have HO_10 := n1_; have HB := n2_; clear n0_ n1_ n2_; (try clear hb); (try clear hb2); (try clear hk); (try clear hi)))
                                                                          repeat (go_quiet (first | (go_at_call 22; (with_reducible refine (impl_BodyOf.calls kj84 t407 x23_2 t441 t442 _ A96.out).mono ?_); rintro e w117 ⟨rfl, hb⟩; have n0_ := Aside0.mk (Kd.R_below (by (with_reducible repeat (first | apply Kd.R_alloc | apply Kd.R_drewN | apply Kd.R_drew)); exact HO_6.out) hb); have n1_ := Aside0.mk (Kd.R_below (by (with_reducible repeat (first | apply Kd.R_alloc | apply Kd.R_drewN | apply Kd.R_drew)); exact HO_10.out) hb); have n2_ := Aside0.mk (below_step (by repeat (first | (with_reducible first | exact HB.out | apply below_alloc | apply pw_below_drewN | apply below_drew1) | exact HB.out)) hb); clear HO_6; clear HO_10; clear HB; have HO_6 := n0_; have HO_10 := n1_; have HB := n2_; clear n0_ n1_ n2_; (try clear hb); (try clear hb2); (try clear hk); (try clear hi); have p443 : 0 ≤ (x23_2 : Int) := of_decide_eq_true (by first | (with_reducible assumption) | assumption); have q443 : x23_2 < (t408.length : Int) := of_decide_eq_true (by first | (with_reducible assumption) | assumption); obtain ⟨ad443, e443, hx443_0⟩ := Kd.at_int (Kd.R_reads' HO_6.out).2.2 x23_2 p443 q443; obtain rfl : ad432 = ad443 := (by injection e443); replace p443 := eq_true p443; replace q443 := eq_true q443) | (go_at_call 19; (with_reducible refine (impl_IsMatched.calls kj84 (t407.extract ((ji97) : Int).toNat ((rd t408 x23_2) : Int).toNat) t444 t445 _ A101.out).mono ?_); rintro e w118 ⟨rfl, hb⟩; have n0_ := Aside0.mk (Kd.R_below (by (with_reducible repeat (first | apply Kd.R_alloc | apply Kd.R_drewN | apply Kd.R_drew)); exact HO_6.out) hb); have n1_ := Aside0.mk (Kd.R_below (by (with_reducible repeat (first | apply Kd.R_alloc | apply Kd.R_drewN | apply Kd.R_drew)); exact HO_10.out) hb); have n2_ := Aside0.mk (below_step (by repeat (first | (with_reducible first | exact HB.out | apply below_alloc | apply pw_below_drewN | apply below_drew1) | exact HB.out)) hb); clear HO_6; clear HO_10; clear HB; have HO_6 := n0_; have HO_10 := n1_; have HB := n2_; clear n0_ n1_ n2_; (try clear hb); (try clear hb2); (try clear hk); (try clear hi))); try go_wp2_with (first | (go_at_call 22; (with_reducible refine (impl_BodyOf.calls kj84 t407 x23_2 t441 t442 _ A96.out).mono ?_); rintro e w117 ⟨rfl, hb⟩; have n0_ := Aside0.mk (Kd.R_below (by (with_reducible repeat (first | apply Kd.R_alloc | apply Kd.R_drewN | apply Kd.R_drew)); exact HO_6.out) hb); have n1_ := Aside0.mk (Kd.R_below (by (with_reducible repeat (first | apply Kd.R_alloc | apply Kd.R_drewN | apply Kd.R_drew)); exact HO_10.out) hb); have n2_ := Aside0.mk (below_step (by repeat (first | (with_reducible first | exact HB.out | apply below_alloc | apply pw_below_drewN | apply below_drew1) | exact HB.out)) hb); clear HO_6; clear HO_10; clear HB; have HO_6 := n0_; have HO_10 := n1_; have HB := n2_; clear n0_ n1_ n2_; (try clear hb); (try clear hb2); (try clear hk); (try clear hi); have p443 : 0 ≤ (x23_2 : Int) := of_decide_eq_true (by first | (with_reducible assumption) | assumption); have q443 : x23_2 < (t408.length : Int) := of_decide_eq_true (by first | (with_reducible assumption) | assumption); obtain ⟨ad443, e443, hx443_0⟩ := Kd.at_int (Kd.R_reads' HO_6.out).2.2 x23_2 p443 q443; obtain rfl : ad432 = ad443 := (by injection e443); replace p443 := eq_true p443; replace q443 := eq_true q443) | (go_at_call 19; (with_reducible refine (impl_IsMatched.calls kj84 (t407.extract ((ji97) : Int).toNat ((rd t408 x23_2) : Int).toNat) t444 t445 _ A101.out).mono ?_); rintro e w118 ⟨rfl, hb⟩; have n0_ := Aside0.mk (Kd.R_below (by (with_reducible repeat (first | apply Kd.R_alloc | apply Kd.R_drewN | apply Kd.R_drew)); exact HO_6.out) hb); have n1_ := Aside0.mk (Kd.R_below (by (with_reducible repeat (first | apply Kd.R_alloc | apply Kd.R_drewN | apply Kd.R_drew)); exact HO_10.out) hb); have n2_ := Aside0.mk (below_step (by repeat (first | (with_reducible first | exact HB.out | apply below_alloc | apply pw_below_drewN | apply below_drew1) | exact HB.out)) hb); clear HO_6; clear HO_10; clear HB; have HO_6 := n0_; have HO_10 := n1_; have HB := n2_; clear n0_ n1_ n2_; (try clear hb); (try clear hb2); (try clear hk); (try clear hi))))
                                                                          go_ret
                                                                          exact ⟨by first | rfl | (simp [errW_none, errW_some] <;> rfl) | (simp only [← hji69, ← hji97]; first | rfl | (simp [errW_none, errW_some] <;> rfl)) | (simp [*, errW_none, errW_some] <;> rfl), by repeat (first | (with_reducible first | exact HB.out | apply below_alloc | apply pw_below_drewN | apply below_drew1) | exact HB.out)⟩
                                                                      · rw [if_neg c100] at H
                                                                        exact absurd H (by simp)
                                                                    · rw [if_neg c99] at H
                                                                      exact absurd H (by simp)
                                                                  · rw [if_neg c98] at H
                                                                    exact absurd H (by simp)
                                                                · rw [if_neg c95] at H
                                                                  have c95b0 : decide (x23_2 < (rd t408 x23_2)) = false := decide_eq_false c95
                                                                  clear c95
                                                                  have H' := Aside0.mk H
                                                                  clear H
                                                                  have p440 : 0 ≤ (x23_2 : Int) := of_decide_eq_true (by first | (with_reducible assumption) | assumption)
                                                                  have q440 : x23_2 < (t408.length : Int) := of_decide_eq_true (by first | (with_reducible assumption) | assumption)
                                                                  obtain ⟨ad440, e440, hx440_0⟩ := Kd.at_int (Kd.R_reads' HO_6.out).2.2 x23_2 p440 q440
                                                                  obtain rfl : ad432 = ad440 := (by injection e440)
                                                                  replace p440 := eq_true p440
                                                                  replace q440 := eq_true q440
                                                                  go_wp2
                                                                  repeat (go_quiet (fail); try go_wp2)
                                                                  go_roundg kj84
                                                                  case measure => have := HJ12.out; have := HK2.out; have := HJ46.out; have := HJ54.out; have := HJ65.out; have := HJ74.out; have := HJ84.out; omega
                                                                  case rel => exact ⟨(x21_74), (wrap64 (x23_2 + 1)), (by first | rfl | (simp; done) | (simp [*]; done)), (by first | rfl | (simp; done) | (simp [*]; done)), H', ⟨by have := HJ12.out; have := HK2.out; have := HJ46.out; have := HJ54.out; have := HJ65.out; have := HJ74.out; have := HJ84.out; omega⟩, ⟨by (with_reducible repeat (first | apply Kd.R_alloc | apply Kd.R_drewN | apply Kd.R_drew)); exact HO_6.out⟩, ⟨by (with_reducible repeat (first | apply Kd.R_alloc | apply Kd.R_drewN | apply Kd.R_drew)); exact HO_10.out⟩, ⟨by repeat (first | (with_reducible first | exact HB.out | apply below_alloc | apply pw_below_drewN | apply below_drew1) | exact HB.out)⟩⟩
                                                              · rw [if_neg c94] at H
                                                                exact absurd H (by simp)
                                                            · rw [if_neg c93] at H
                                                              exact absurd H (by simp)
                                                  · rw [if_neg c83] at H
                                                    exact absurd H (by simp)
                                                · rw [if_neg c82] at H
                                                  exact absurd H (by simp)
                                          · rw [if_neg c74] at H
                                            exact absurd H (by simp)
                                        · rw [if_neg c73] at H
                                          exact absurd H (by simp)
                                      · rw [if_neg c72] at H
                                        have c72b0 : ((rd t414 (ji69)) == x25_65) = false := beq_eq_false_iff_ne.mpr c72
                                        have c72b1 : ((rd t414 (ji69)) != x25_65) = true := bne_iff_ne.mpr c72
                                        obtain rfl := Option.some.inj H
                                        obtain ⟨Ao119, co119, eo119⟩ := Kd.R_slice HO_10.out
                                        subst eo119
                                        have p433 : 0 ≤ ((ji69) : Int) := of_decide_eq_true (by first | (with_reducible assumption) | assumption)
                                        have q433 : (ji69) < (t414.length : Int) := of_decide_eq_true (by first | (with_reducible assumption) | assumption)
                                        obtain ⟨ad433, e433, hx433_0⟩ := Kd.at_int (Kd.R_reads' HO_10.out).2.2 (ji69) p433 q433
                                        cases e433
                                        replace p433 := eq_true p433
                                        replace q433 := eq_true q433
                                        go_wp2
                                        repeat (go_quiet (fail); try go_wp2)
                                        go_ret
                                        exact ⟨by first | rfl | (simp [errW_none, errW_some] <;> rfl) | (simp only [← hji69]; first | rfl | (simp [errW_none, errW_some] <;> rfl)) | (simp [*, errW_none, errW_some] <;> rfl), by repeat (first | (with_reducible first | exact HB.out | apply below_alloc | apply pw_below_drewN | apply below_drew1) | exact HB.out)⟩
                                    · rw [if_neg c71] at H
                                      exact absurd H (by simp)
                                  · rw [if_neg c70] at H
                                    exact absurd H (by simp)
                            · rw [if_neg c65] at H
                              exact absurd H (by simp)
                          · rw [if_neg c64] at H
                            exact absurd H (by simp)
              · rw [if_neg c46] at H
                have c46b0 : decide (x23_2 < (t407.size : Int)) = false := decide_eq_false c46
                clear c46
                obtain rfl := Option.some.inj H
                go_wp2
                repeat (go_quiet (fail); try go_wp2)
                go_ret
                exact ⟨by first | rfl | (simp [errW_none, errW_some] <;> rfl) | (simp [*, errW_none, errW_some] <;> rfl), by repeat (first | (with_reducible first | exact HB.out | apply below_alloc | apply pw_below_drewN | apply below_drew1) | exact HB.out)⟩

/-- THE ONE PURE STATEMENT of laws_FnMatching: yours. -/
def laws_FnMatching.Pure : Prop := ∀ (l0 : List Int) (l1 : List Int), l0.length ≤ maxLen → l0.length * 1 ≤ 140737488351232 → (∀ x ∈ l0, (Lit.int .u8 x).wf = true) → l1.length ≤ maxLen → l1.length * 1 ≤ 140737488351232 → (∀ x ∈ l1, (Lit.int .u8 x).wf = true) → ∃ k, laws_FnMatching.f k l0 l1 = some true
theorem laws_FnMatching.walk (P : laws_FnMatching.Pure) (a0 : Option Addr) (len0 cap0 : Nat) (z0 : List Int) (a1 : Option Addr) (len1 cap1 : Nat) (z1 : List Int) (w : World) (w0 : (a0 = none ∧ len0 = 0 ∧ cap0 = 0 ∧ z0 = []) ∨ ∃ x, a0 = some x ∧ len0 ≤ cap0 ∧ cap0 ≤ maxLen ∧ z0.length = cap0 ∧ (∀ i, i < z0.length → w.cell? (x.add i) = some (.int .u8 (z0.getD i 0))) ∧ ∀ n ∈ z0, (Lit.int .u8 n).wf = true) (y0 : len0 * 1 ≤ 140737488351232) (w1 : (a1 = none ∧ len1 = 0 ∧ cap1 = 0 ∧ z1 = []) ∨ ∃ x, a1 = some x ∧ len1 ≤ cap1 ∧ cap1 ≤ maxLen ∧ z1.length = cap1 ∧ (∀ i, i < z1.length → w.cell? (x.add i) = some (.int .u8 (z1.getD i 0))) ∧ ∀ n ∈ z1, (Lit.int .u8 n).wf = true) (y1 : len1 * 1 ≤ 140737488351232) :
    Calls Try.prog 6 #[.slice a0 len0 cap0, .slice a1 len1 cap1] w fun e w' => e = .returned (.bool true) ∧ Below w.heap.size w w' := by
  obtain ⟨l0, rfl, hr0, hm0, hw0, hc0⟩ := ReadsInt.ofRowC w0
  obtain ⟨l1, rfl, hr1, hm1, hw1, hc1⟩ := ReadsInt.ofRowC w1
  obtain ⟨k, h⟩ := P l0 l1 hm0 y0 hw0 hm1 y1 hw1
  refine (laws_FnMatching.calls k _ _ l0 _ _ l1 true w (Kd.C_of_reads (d := (0 : Int)) (h1 := fun _ => rfl) hr0) hc0 (Kd.C_of_reads (d := (0 : Int)) (h1 := fun _ => rfl) hr1) hc1 h).mono ?_
  rintro e w' ⟨rfl, hd⟩
  exact ⟨rfl, hd⟩

end Go.Proofs.Ythhmkkclmopkhaa.P
