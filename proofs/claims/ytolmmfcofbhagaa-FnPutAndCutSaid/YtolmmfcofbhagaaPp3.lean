/- Machine side of the laws of this seat: for each Go function that they reach, a Lean function and the proof that a call comes to just its answer. Written by a program of this session. -/
import Derived.Test.YtolmmfcofbhagaaPp0
import Derived.Test.YtolmmfcofbhagaaPp9
import Derived.Test.YtolmmfcofbhagaaPp14
import Derived.Test.YtolmmfcofbhagaaPp16
import Derived.Test.YtolmmfcofbhagaaPp17
import Derived.Test.YtolmmfcofbhagaaPp39
import Derived.Test.YtolmmfcofbhagaaPp40
import Derived.Test.YtolmmfcofbhagaaPp43
namespace Go.Proofs.Ytolmmfcofbhagaa.PC
open Go.RowKit Go.Proofs.YtolmmfcofbhagaaW.PrintWords Go.Proofs.YtolmmfcofbhagaaW.PrintLast Go.Proofs.YtolmmfcofbhagaaW.PrintMore
attribute [local go_sem] max2_int min2_int max_two min_two max_three min_three max_four min_four
set_option linter.unusedVariables false
set_option linter.unusedSimpArgs false
mutual
def laws_FnPutAndCut.j0 : Nat → ByteArray → ByteArray → Int → ByteArray → List Int → List Int → Bool → Option (Bool)
 | 0, _, _, _, _, _, _, _ => none
 | k + 1, x5, x6, x7, x8, x10, x12, x98 => if x98 = true then (some false) else ((impl_CutMatched.f k x8 x7).bind fun bt406 => (if bt406.2 = 0 then (laws_FnPutAndCut.j1 k x5 x6 x7 x10 x12 (bt406.1.toList != x5.toList)) else (laws_FnPutAndCut.j1 k x5 x6 x7 x10 x12 true)))
def laws_FnPutAndCut.j1 : Nat → ByteArray → ByteArray → Int → List Int → List Int → Bool → Option (Bool)
 | 0, _, _, _, _, _, _ => none
 | k + 1, x5, x6, x7, x10, x12, x111 => if x111 = true then (some false) else (laws_FnPutAndCut.l0 k x5 x6 x7 x10 x12 (x6.size : Int) 0)
def laws_FnPutAndCut.l0 : Nat → ByteArray → ByteArray → Int → List Int → List Int → Int → Int → Option (Bool)
 | 0, _, _, _, _, _, _, _ => none
 | k + 1, x5, x6, x7, x10, x12, x16, x17 => if x17 < (x5.size : Int) then (if x17 ≥ x7 then (laws_FnPutAndCut.j3 k x5 x6 x7 x10 x12 x16 x17 (wrap64 (x17 + x16))) else (laws_FnPutAndCut.j3 k x5 x6 x7 x10 x12 x16 x17 x17)) else ((impl_CompleteWord.f k x5).bind fun bt411 => ((impl_IsMatched.f k bt411.1).bind fun bt413 => ((impl_PendingOf.f k x5).bind fun bt415 => ((impl_JoinWords.f k x5 x6).bind fun bt418 => ((impl_PutAt.f k x5 x7 (⟨#[40]⟩ : ByteArray)).bind fun bt420 => (if bt411.2 = 0 then (if bt413.2 = 0 then (if bt413.1 = true then (if bt415.2.2 = 0 then (if (bt411.1.size : Int) = (wrap64 ((wrap64 ((x5.size : Int) + bt415.1)) + bt415.2.1)) then (if 0 ≤ bt415.1 then (if bt415.1 ≤ (wrap64 (bt415.1 + (x5.size : Int))) then (if (wrap64 (bt415.1 + (x5.size : Int))) ≤ (bt411.1.size : Int) then (if (bt411.1.extract (bt415.1 : Int).toNat ((wrap64 (bt415.1 + (x5.size : Int))) : Int).toNat).toList = x5.toList then (if bt418.2 = 0 then (if x5.size + x6.size ≤ 9223372036854775807 then (if bt418.1.toList = (x5 ++ x6).toList then (some (bt420.2 == 4)) else (some false)) else (none)) else (some false)) else (some false)) else (none)) else (none)) else (none)) else (some false)) else (some false)) else (some false)) else (some false)) else (some false)))))))
def laws_FnPutAndCut.j3 : Nat → ByteArray → ByteArray → Int → List Int → List Int → Int → Int → Int → Option (Bool)
 | 0, _, _, _, _, _, _, _, _ => none
 | k + 1, x5, x6, x7, x10, x12, x16, x17, x18 => if 0 ≤ x17 then (if x17 < (x10.length : Int) then (if (rd x10 x17) ≥ x7 then (if 0 ≤ x18 then (if x18 < (x12.length : Int) then (if (rd x12 x18) = (wrap64 ((rd x10 x17) + x16)) then (laws_FnPutAndCut.l0 k x5 x6 x7 x10 x12 x16 (wrap64 (x17 + 1))) else (some false)) else (none)) else (none)) else (if 0 ≤ x18 then (if x18 < (x12.length : Int) then (if (rd x12 x18) = (rd x10 x17) then (laws_FnPutAndCut.l0 k x5 x6 x7 x10 x12 x16 (wrap64 (x17 + 1))) else (some false)) else (none)) else (none))) else (none)) else (none)
end
def laws_FnPutAndCut.f (k : Nat) (l0 : List Int) (l1 : List Int) : Option (Bool) := (laws_a2Long.f l0 l1).bind fun t392 => (if t392 = true then (some true) else ((spec_A2Word.f k l0 12).bind fun t393 => ((spec_A2Matched.f k l1 8).bind fun t394 => (if 1 + t394.size ≤ 9223372036854775807 then (if ((⟨#[91]⟩ : ByteArray) ++ t394).size + 1 ≤ 9223372036854775807 then ((laws_a2At.f l1 0 (wrap64 ((t393.size : Int) + 1))).bind fun t395 => ((impl_PutAt.f k t393 t395 (((⟨#[91]⟩ : ByteArray) ++ t394) ++ (⟨#[41]⟩ : ByteArray))).bind fun bt396 => ((impl_PartnersOf.f k t393).bind fun bt398 => ((impl_PartnersOf.f k bt396.1).bind fun bt402 => (if bt396.2 = 0 then (if bt398.2 = 0 then (if bt402.2 = 0 then (if 0 ≤ t395 then (if t395 ≤ (t393.size : Int) then (if (t393.extract 0 (t395 : Int).toNat).size + (((⟨#[91]⟩ : ByteArray) ++ t394) ++ (⟨#[41]⟩ : ByteArray)).size ≤ 9223372036854775807 then (if ((t393.extract 0 (t395 : Int).toNat) ++ (((⟨#[91]⟩ : ByteArray) ++ t394) ++ (⟨#[41]⟩ : ByteArray))).size + (t393.extract (t395 : Int).toNat t393.size).size ≤ 9223372036854775807 then (if bt396.1.toList = (((t393.extract 0 (t395 : Int).toNat) ++ (((⟨#[91]⟩ : ByteArray) ++ t394) ++ (⟨#[41]⟩ : ByteArray))) ++ (t393.extract (t395 : Int).toNat t393.size)).toList then (if (bt398.1.length : Int) = (t393.size : Int) then (laws_FnPutAndCut.j0 k t393 (((⟨#[91]⟩ : ByteArray) ++ t394) ++ (⟨#[41]⟩ : ByteArray)) t395 bt396.1 bt398.1 bt402.1 ((bt402.1.length : Int) != (bt396.1.size : Int))) else (laws_FnPutAndCut.j0 k t393 (((⟨#[91]⟩ : ByteArray) ++ t394) ++ (⟨#[41]⟩ : ByteArray)) t395 bt396.1 bt398.1 bt402.1 true)) else (laws_FnPutAndCut.j0 k t393 (((⟨#[91]⟩ : ByteArray) ++ t394) ++ (⟨#[41]⟩ : ByteArray)) t395 bt396.1 bt398.1 bt402.1 true)) else (none)) else (none)) else (none)) else (none)) else (laws_FnPutAndCut.j0 k t393 (((⟨#[91]⟩ : ByteArray) ++ t394) ++ (⟨#[41]⟩ : ByteArray)) t395 bt396.1 bt398.1 bt402.1 true)) else (laws_FnPutAndCut.j0 k t393 (((⟨#[91]⟩ : ByteArray) ++ t394) ++ (⟨#[41]⟩ : ByteArray)) t395 bt396.1 bt398.1 bt402.1 true)) else (laws_FnPutAndCut.j0 k t393 (((⟨#[91]⟩ : ByteArray) ++ t394) ++ (⟨#[41]⟩ : ByteArray)) t395 bt396.1 bt398.1 bt402.1 true)))))) else (none)) else (none)))))
theorem laws_FnPutAndCut.mono_l : ∀ k, (∀ y0 y1 y2 y3 y4 y5 y6, LeO (laws_FnPutAndCut.j0 k y0 y1 y2 y3 y4 y5 y6) (laws_FnPutAndCut.j0 (k + 1) y0 y1 y2 y3 y4 y5 y6)) ∧ (∀ y0 y1 y2 y3 y4 y5, LeO (laws_FnPutAndCut.j1 k y0 y1 y2 y3 y4 y5) (laws_FnPutAndCut.j1 (k + 1) y0 y1 y2 y3 y4 y5)) ∧ (∀ y0 y1 y2 y3 y4 y5 y6, LeO (laws_FnPutAndCut.l0 k y0 y1 y2 y3 y4 y5 y6) (laws_FnPutAndCut.l0 (k + 1) y0 y1 y2 y3 y4 y5 y6)) ∧ (∀ y0 y1 y2 y3 y4 y5 y6 y7, LeO (laws_FnPutAndCut.j3 k y0 y1 y2 y3 y4 y5 y6 y7) (laws_FnPutAndCut.j3 (k + 1) y0 y1 y2 y3 y4 y5 y6 y7))
 | 0 => ⟨fun _ _ _ _ _ _ _ r h => by simp [laws_FnPutAndCut.j0] at h, fun _ _ _ _ _ _ r h => by simp [laws_FnPutAndCut.j1] at h, fun _ _ _ _ _ _ _ r h => by simp [laws_FnPutAndCut.l0] at h, fun _ _ _ _ _ _ _ _ r h => by simp [laws_FnPutAndCut.j3] at h⟩
 | k + 1 => by
  obtain ⟨ih0, ih1, ih2, ih3⟩ := laws_FnPutAndCut.mono_l k
  refine ⟨?_, ?_, ?_, ?_⟩
  ·intro y0 y1 y2 y3 y4 y5 y6
   unfold laws_FnPutAndCut.j0
   repeat' first
   | (with_reducible exact ih0 _ _ _ _ _ _ _)
   | (with_reducible exact ih1 _ _ _ _ _ _)
   | (with_reducible exact ih2 _ _ _ _ _ _ _)
   | (with_reducible exact ih3 _ _ _ _ _ _ _ _)
   | (with_reducible exact impl_CompleteWord.mono _ _)
   | (with_reducible exact impl_CutMatched.mono _ _ _)
   | (with_reducible exact impl_IsMatched.mono _ _)
   | (with_reducible exact impl_JoinWords.mono _ _ _)
   | (with_reducible exact impl_PartnersOf.mono _ _)
   | (with_reducible exact impl_PendingOf.mono _ _)
   | (with_reducible exact impl_PutAt.mono _ _ _ _)
   | (with_reducible exact spec_A2Matched.mono _ _ _)
   | (with_reducible exact spec_A2Word.mono _ _ _)
   | (with_reducible exact LeO.refl _)
   | (with_reducible exact LeO.none _)
   | (with_reducible refine LeO.ite ?_ ?_)
   | (with_reducible refine LeO.bind ?_ (fun _ => ?_))
   | exact ih0 _ _ _ _ _ _ _
   | exact ih1 _ _ _ _ _ _
   | exact ih2 _ _ _ _ _ _ _
   | exact ih3 _ _ _ _ _ _ _ _
   | exact impl_CompleteWord.mono _ _
   | exact impl_CutMatched.mono _ _ _
   | exact impl_IsMatched.mono _ _
   | exact impl_JoinWords.mono _ _ _
   | exact impl_PartnersOf.mono _ _
   | exact impl_PendingOf.mono _ _
   | exact impl_PutAt.mono _ _ _ _
   | exact spec_A2Matched.mono _ _ _
   | exact spec_A2Word.mono _ _ _
   | exact LeO.none _
   | refine LeO.ite ?_ ?_
   | refine LeO.bind ?_ (fun _ => ?_)
  ·intro y0 y1 y2 y3 y4 y5
   unfold laws_FnPutAndCut.j1
   repeat' first
   | (with_reducible exact ih0 _ _ _ _ _ _ _)
   | (with_reducible exact ih1 _ _ _ _ _ _)
   | (with_reducible exact ih2 _ _ _ _ _ _ _)
   | (with_reducible exact ih3 _ _ _ _ _ _ _ _)
   | (with_reducible exact impl_CompleteWord.mono _ _)
   | (with_reducible exact impl_CutMatched.mono _ _ _)
   | (with_reducible exact impl_IsMatched.mono _ _)
   | (with_reducible exact impl_JoinWords.mono _ _ _)
   | (with_reducible exact impl_PartnersOf.mono _ _)
   | (with_reducible exact impl_PendingOf.mono _ _)
   | (with_reducible exact impl_PutAt.mono _ _ _ _)
   | (with_reducible exact spec_A2Matched.mono _ _ _)
   | (with_reducible exact spec_A2Word.mono _ _ _)
   | (with_reducible exact LeO.refl _)
   | (with_reducible exact LeO.none _)
   | (with_reducible refine LeO.ite ?_ ?_)
   | (with_reducible refine LeO.bind ?_ (fun _ => ?_))
   | exact ih0 _ _ _ _ _ _ _
   | exact ih1 _ _ _ _ _ _
   | exact ih2 _ _ _ _ _ _ _
   | exact ih3 _ _ _ _ _ _ _ _
   | exact impl_CompleteWord.mono _ _
   | exact impl_CutMatched.mono _ _ _
   | exact impl_IsMatched.mono _ _
   | exact impl_JoinWords.mono _ _ _
   | exact impl_PartnersOf.mono _ _
   | exact impl_PendingOf.mono _ _
   | exact impl_PutAt.mono _ _ _ _
   | exact spec_A2Matched.mono _ _ _
   | exact spec_A2Word.mono _ _ _
   | exact LeO.none _
   | refine LeO.ite ?_ ?_
   | refine LeO.bind ?_ (fun _ => ?_)
  ·intro y0 y1 y2 y3 y4 y5 y6
   unfold laws_FnPutAndCut.l0
   repeat' first
   | (with_reducible exact ih0 _ _ _ _ _ _ _)
   | (with_reducible exact ih1 _ _ _ _ _ _)
   | (with_reducible exact ih2 _ _ _ _ _ _ _)
   | (with_reducible exact ih3 _ _ _ _ _ _ _ _)
   | (with_reducible exact impl_CompleteWord.mono _ _)
   | (with_reducible exact impl_CutMatched.mono _ _ _)
   | (with_reducible exact impl_IsMatched.mono _ _)
   | (with_reducible exact impl_JoinWords.mono _ _ _)
   | (with_reducible exact impl_PartnersOf.mono _ _)
   | (with_reducible exact impl_PendingOf.mono _ _)
   | (with_reducible exact impl_PutAt.mono _ _ _ _)
   | (with_reducible exact spec_A2Matched.mono _ _ _)
   | (with_reducible exact spec_A2Word.mono _ _ _)
   | (with_reducible exact LeO.refl _)
   | (with_reducible exact LeO.none _)
   | (with_reducible refine LeO.ite ?_ ?_)
   | (with_reducible refine LeO.bind ?_ (fun _ => ?_))
   | exact ih0 _ _ _ _ _ _ _
   | exact ih1 _ _ _ _ _ _
   | exact ih2 _ _ _ _ _ _ _
   | exact ih3 _ _ _ _ _ _ _ _
   | exact impl_CompleteWord.mono _ _
   | exact impl_CutMatched.mono _ _ _
   | exact impl_IsMatched.mono _ _
   | exact impl_JoinWords.mono _ _ _
   | exact impl_PartnersOf.mono _ _
   | exact impl_PendingOf.mono _ _
   | exact impl_PutAt.mono _ _ _ _
   | exact spec_A2Matched.mono _ _ _
   | exact spec_A2Word.mono _ _ _
   | exact LeO.none _
   | refine LeO.ite ?_ ?_
   | refine LeO.bind ?_ (fun _ => ?_)
  ·intro y0 y1 y2 y3 y4 y5 y6 y7
   unfold laws_FnPutAndCut.j3
   repeat' first
   | (with_reducible exact ih0 _ _ _ _ _ _ _)
   | (with_reducible exact ih1 _ _ _ _ _ _)
   | (with_reducible exact ih2 _ _ _ _ _ _ _)
   | (with_reducible exact ih3 _ _ _ _ _ _ _ _)
   | (with_reducible exact impl_CompleteWord.mono _ _)
   | (with_reducible exact impl_CutMatched.mono _ _ _)
   | (with_reducible exact impl_IsMatched.mono _ _)
   | (with_reducible exact impl_JoinWords.mono _ _ _)
   | (with_reducible exact impl_PartnersOf.mono _ _)
   | (with_reducible exact impl_PendingOf.mono _ _)
   | (with_reducible exact impl_PutAt.mono _ _ _ _)
   | (with_reducible exact spec_A2Matched.mono _ _ _)
   | (with_reducible exact spec_A2Word.mono _ _ _)
   | (with_reducible exact LeO.refl _)
   | (with_reducible exact LeO.none _)
   | (with_reducible refine LeO.ite ?_ ?_)
   | (with_reducible refine LeO.bind ?_ (fun _ => ?_))
   | exact ih0 _ _ _ _ _ _ _
   | exact ih1 _ _ _ _ _ _
   | exact ih2 _ _ _ _ _ _ _
   | exact ih3 _ _ _ _ _ _ _ _
   | exact impl_CompleteWord.mono _ _
   | exact impl_CutMatched.mono _ _ _
   | exact impl_IsMatched.mono _ _
   | exact impl_JoinWords.mono _ _ _
   | exact impl_PartnersOf.mono _ _
   | exact impl_PendingOf.mono _ _
   | exact impl_PutAt.mono _ _ _ _
   | exact spec_A2Matched.mono _ _ _
   | exact spec_A2Word.mono _ _ _
   | exact LeO.none _
   | refine LeO.ite ?_ ?_
   | refine LeO.bind ?_ (fun _ => ?_)
theorem laws_FnPutAndCut.mono : ∀ a0 a1 k, LeO (laws_FnPutAndCut.f k a0 a1) (laws_FnPutAndCut.f (k + 1) a0 a1) := by
 intro a0 a1 k
 obtain ⟨ih0, ih1, ih2, ih3⟩ := laws_FnPutAndCut.mono_l k
 unfold laws_FnPutAndCut.f
 repeat' first
   | (with_reducible exact ih0 _ _ _ _ _ _ _)
   | (with_reducible exact ih1 _ _ _ _ _ _)
   | (with_reducible exact ih2 _ _ _ _ _ _ _)
   | (with_reducible exact ih3 _ _ _ _ _ _ _ _)
   | (with_reducible exact impl_CompleteWord.mono _ _)
   | (with_reducible exact impl_CutMatched.mono _ _ _)
   | (with_reducible exact impl_IsMatched.mono _ _)
   | (with_reducible exact impl_JoinWords.mono _ _ _)
   | (with_reducible exact impl_PartnersOf.mono _ _)
   | (with_reducible exact impl_PendingOf.mono _ _)
   | (with_reducible exact impl_PutAt.mono _ _ _ _)
   | (with_reducible exact spec_A2Matched.mono _ _ _)
   | (with_reducible exact spec_A2Word.mono _ _ _)
   | (with_reducible exact LeO.refl _)
   | (with_reducible exact LeO.none _)
   | (with_reducible refine LeO.ite ?_ ?_)
   | (with_reducible refine LeO.bind ?_ (fun _ => ?_))
   | exact ih0 _ _ _ _ _ _ _
   | exact ih1 _ _ _ _ _ _
   | exact ih2 _ _ _ _ _ _ _
   | exact ih3 _ _ _ _ _ _ _ _
   | exact impl_CompleteWord.mono _ _
   | exact impl_CutMatched.mono _ _ _
   | exact impl_IsMatched.mono _ _
   | exact impl_JoinWords.mono _ _ _
   | exact impl_PartnersOf.mono _ _
   | exact impl_PendingOf.mono _ _
   | exact impl_PutAt.mono _ _ _ _
   | exact spec_A2Matched.mono _ _ _
   | exact spec_A2Word.mono _ _ _
   | exact LeO.none _
   | refine LeO.ite ?_ ?_
   | refine LeO.bind ?_ (fun _ => ?_)
theorem laws_FnPutAndCut.len_ (t : ByteArray) : ((((⟨#[91]⟩ : ByteArray) ++ t) ++ (⟨#[41]⟩ : ByteArray)).size : Int) = 1 + (t.size : Int) + 1 := by
  rw [ByteArray.size_append, ByteArray.size_append, show (⟨#[91]⟩ : ByteArray).size = 1 from rfl, show (⟨#[41]⟩ : ByteArray).size = 1 from rfl]; omega
set_option maxHeartbeats 8000000 in
set_option maxRecDepth 100000 in
theorem laws_FnPutAndCut.calls (k : Nat) (A0 : Option Addr) (c0 : Nat) (l0 : List Int) (A1 : Option Addr) (c1 : Nat) (l1 : List Int) (r : Bool) (w : World) (hr0 : Kd.C (Kd.int .u8) w A0 l0.length l0) (hc0 : l0.length ≤ c0) (hr1 : Kd.C (Kd.int .u8) w A1 l1.length l1) (hc1 : l1.length ≤ c1) (h : laws_FnPutAndCut.f k l0 l1 = some r) :
  Calls Try.prog 3 #[.slice A0 l0.length c0, .slice A1 l1.length c1] w fun e w' => e = .returned (.bool r) ∧ Below w.heap.size w w' := by
 have HR0 := Aside0.mk hr0
 have HC0 := Aside0.mk hc0
 clear hr0 hc0
 have HR1 := Aside0.mk hr1
 have HC1 := Aside0.mk hc1
 clear hr1 hc1
 have HB := Aside0.mk (Below.refl w.heap.size w)
 have H : ((laws_a2Long.f l0 l1).bind fun t392 => (if t392 = true then (some true) else ((spec_A2Word.f k l0 12).bind fun t393 => ((spec_A2Matched.f k l1 8).bind fun t394 => (if 1 + t394.size ≤ 9223372036854775807 then (if ((⟨#[91]⟩ : ByteArray) ++ t394).size + 1 ≤ 9223372036854775807 then ((laws_a2At.f l1 0 (wrap64 ((t393.size : Int) + 1))).bind fun t395 => ((impl_PutAt.f k t393 t395 (((⟨#[91]⟩ : ByteArray) ++ t394) ++ (⟨#[41]⟩ : ByteArray))).bind fun bt396 => ((impl_PartnersOf.f k t393).bind fun bt398 => ((impl_PartnersOf.f k bt396.1).bind fun bt402 => (if bt396.2 = 0 then (if bt398.2 = 0 then (if bt402.2 = 0 then (if 0 ≤ t395 then (if t395 ≤ (t393.size : Int) then (if (t393.extract 0 (t395 : Int).toNat).size + (((⟨#[91]⟩ : ByteArray) ++ t394) ++ (⟨#[41]⟩ : ByteArray)).size ≤ 9223372036854775807 then (if ((t393.extract 0 (t395 : Int).toNat) ++ (((⟨#[91]⟩ : ByteArray) ++ t394) ++ (⟨#[41]⟩ : ByteArray))).size + (t393.extract (t395 : Int).toNat t393.size).size ≤ 9223372036854775807 then (if bt396.1.toList = (((t393.extract 0 (t395 : Int).toNat) ++ (((⟨#[91]⟩ : ByteArray) ++ t394) ++ (⟨#[41]⟩ : ByteArray))) ++ (t393.extract (t395 : Int).toNat t393.size)).toList then (if (bt398.1.length : Int) = (t393.size : Int) then (laws_FnPutAndCut.j0 k t393 (((⟨#[91]⟩ : ByteArray) ++ t394) ++ (⟨#[41]⟩ : ByteArray)) t395 bt396.1 bt398.1 bt402.1 ((bt402.1.length : Int) != (bt396.1.size : Int))) else (laws_FnPutAndCut.j0 k t393 (((⟨#[91]⟩ : ByteArray) ++ t394) ++ (⟨#[41]⟩ : ByteArray)) t395 bt396.1 bt398.1 bt402.1 true)) else (laws_FnPutAndCut.j0 k t393 (((⟨#[91]⟩ : ByteArray) ++ t394) ++ (⟨#[41]⟩ : ByteArray)) t395 bt396.1 bt398.1 bt402.1 true)) else (none)) else (none)) else (none)) else (none)) else (laws_FnPutAndCut.j0 k t393 (((⟨#[91]⟩ : ByteArray) ++ t394) ++ (⟨#[41]⟩ : ByteArray)) t395 bt396.1 bt398.1 bt402.1 true)) else (laws_FnPutAndCut.j0 k t393 (((⟨#[91]⟩ : ByteArray) ++ t394) ++ (⟨#[41]⟩ : ByteArray)) t395 bt396.1 bt398.1 bt402.1 true)) else (laws_FnPutAndCut.j0 k t393 (((⟨#[91]⟩ : ByteArray) ++ t394) ++ (⟨#[41]⟩ : ByteArray)) t395 bt396.1 bt398.1 bt402.1 true)))))) else (none)) else (none)))))) = some r := h
 clear h
 replace H := Option.bind_eq_some_iff.mp H
 obtain ⟨t392, A30, H⟩ := H
 replace H : (if t392 = true then (some true) else ((spec_A2Word.f k l0 12).bind fun t393 => ((spec_A2Matched.f k l1 8).bind fun t394 => (if 1 + t394.size ≤ 9223372036854775807 then (if ((⟨#[91]⟩ : ByteArray) ++ t394).size + 1 ≤ 9223372036854775807 then ((laws_a2At.f l1 0 (wrap64 ((t393.size : Int) + 1))).bind fun t395 => ((impl_PutAt.f k t393 t395 (((⟨#[91]⟩ : ByteArray) ++ t394) ++ (⟨#[41]⟩ : ByteArray))).bind fun bt396 => ((impl_PartnersOf.f k t393).bind fun bt398 => ((impl_PartnersOf.f k bt396.1).bind fun bt402 => (if bt396.2 = 0 then (if bt398.2 = 0 then (if bt402.2 = 0 then (if 0 ≤ t395 then (if t395 ≤ (t393.size : Int) then (if (t393.extract 0 (t395 : Int).toNat).size + (((⟨#[91]⟩ : ByteArray) ++ t394) ++ (⟨#[41]⟩ : ByteArray)).size ≤ 9223372036854775807 then (if ((t393.extract 0 (t395 : Int).toNat) ++ (((⟨#[91]⟩ : ByteArray) ++ t394) ++ (⟨#[41]⟩ : ByteArray))).size + (t393.extract (t395 : Int).toNat t393.size).size ≤ 9223372036854775807 then (if bt396.1.toList = (((t393.extract 0 (t395 : Int).toNat) ++ (((⟨#[91]⟩ : ByteArray) ++ t394) ++ (⟨#[41]⟩ : ByteArray))) ++ (t393.extract (t395 : Int).toNat t393.size)).toList then (if (bt398.1.length : Int) = (t393.size : Int) then (laws_FnPutAndCut.j0 k t393 (((⟨#[91]⟩ : ByteArray) ++ t394) ++ (⟨#[41]⟩ : ByteArray)) t395 bt396.1 bt398.1 bt402.1 ((bt402.1.length : Int) != (bt396.1.size : Int))) else (laws_FnPutAndCut.j0 k t393 (((⟨#[91]⟩ : ByteArray) ++ t394) ++ (⟨#[41]⟩ : ByteArray)) t395 bt396.1 bt398.1 bt402.1 true)) else (laws_FnPutAndCut.j0 k t393 (((⟨#[91]⟩ : ByteArray) ++ t394) ++ (⟨#[41]⟩ : ByteArray)) t395 bt396.1 bt398.1 bt402.1 true)) else (none)) else (none)) else (none)) else (none)) else (laws_FnPutAndCut.j0 k t393 (((⟨#[91]⟩ : ByteArray) ++ t394) ++ (⟨#[41]⟩ : ByteArray)) t395 bt396.1 bt398.1 bt402.1 true)) else (laws_FnPutAndCut.j0 k t393 (((⟨#[91]⟩ : ByteArray) ++ t394) ++ (⟨#[41]⟩ : ByteArray)) t395 bt396.1 bt398.1 bt402.1 true)) else (laws_FnPutAndCut.j0 k t393 (((⟨#[91]⟩ : ByteArray) ++ t394) ++ (⟨#[41]⟩ : ByteArray)) t395 bt396.1 bt398.1 bt402.1 true)))))) else (none)) else (none))))) = some r := H
 have A3 := Aside0.mk A30
 clear A30
 by_cases c4 : t392 = true
 ·subst c4
  have H1 : (some true) = some r := by rw [if_pos rfl] at H; exact H
  clear H
  have H := H1
  clear H1
  obtain rfl := Option.some.inj H
  go_enter Try.func3, Try.ntmps3
  go_wp2_with (first | (go_at_call 9; (with_reducible refine (laws_a2Long.calls _ _ l0 _ _ l1 true _ ?side1 ?side2 ?side3 ?side4 A3.out).mono ?_); (case side1 => repeat (first | exact HR0.out | (with_reducible refine Kd.C_alloc ?_ _) | (with_reducible refine Kd.C_drewN ?_ _) | (with_reducible refine Kd.C_drew ?_))); (case side2 => exact HC0.out); (case side3 => repeat (first | exact HR1.out | (with_reducible refine Kd.C_alloc ?_ _) | (with_reducible refine Kd.C_drewN ?_ _) | (with_reducible refine Kd.C_drew ?_))); (case side4 => exact HC1.out); rintro e w' ⟨rfl, ⟨nd, rfl⟩⟩; (try first | exact ⟨rfl, _, World.drewN_drewN _ _ _⟩ | exact ⟨rfl, _, Eq.trans (World.drewN_drewN _ _ _) (congrArg (World.drewN _) (Nat.add_assoc _ _ _))⟩)))
  repeat (go_quiet (first | (go_at_call 9; (with_reducible refine (laws_a2Long.calls _ _ l0 _ _ l1 true _ ?side1 ?side2 ?side3 ?side4 A3.out).mono ?_); (case side1 => repeat (first | exact HR0.out | (with_reducible refine Kd.C_alloc ?_ _) | (with_reducible refine Kd.C_drewN ?_ _) | (with_reducible refine Kd.C_drew ?_))); (case side2 => exact HC0.out); (case side3 => repeat (first | exact HR1.out | (with_reducible refine Kd.C_alloc ?_ _) | (with_reducible refine Kd.C_drewN ?_ _) | (with_reducible refine Kd.C_drew ?_))); (case side4 => exact HC1.out); rintro e w' ⟨rfl, ⟨nd, rfl⟩⟩; (try first | exact ⟨rfl, _, World.drewN_drewN _ _ _⟩ | exact ⟨rfl, _, Eq.trans (World.drewN_drewN _ _ _) (congrArg (World.drewN _) (Nat.add_assoc _ _ _))⟩))); try go_wp2_with (first | (go_at_call 9; (with_reducible refine (laws_a2Long.calls _ _ l0 _ _ l1 true _ ?side1 ?side2 ?side3 ?side4 A3.out).mono ?_); (case side1 => repeat (first | exact HR0.out | (with_reducible refine Kd.C_alloc ?_ _) | (with_reducible refine Kd.C_drewN ?_ _) | (with_reducible refine Kd.C_drew ?_))); (case side2 => exact HC0.out); (case side3 => repeat (first | exact HR1.out | (with_reducible refine Kd.C_alloc ?_ _) | (with_reducible refine Kd.C_drewN ?_ _) | (with_reducible refine Kd.C_drew ?_))); (case side4 => exact HC1.out); rintro e w' ⟨rfl, ⟨nd, rfl⟩⟩; (try first | exact ⟨rfl, _, World.drewN_drewN _ _ _⟩ | exact ⟨rfl, _, Eq.trans (World.drewN_drewN _ _ _) (congrArg (World.drewN _) (Nat.add_assoc _ _ _))⟩))))
  go_ret
  exact ⟨by first | rfl | (simp [errW_none, errW_some] <;> rfl) | (simp [*, errW_none, errW_some] <;> rfl), by repeat (first | (with_reducible first | exact HB.out | apply below_alloc | apply pw_below_drewN | apply below_drew1) | exact HB.out)⟩
 ·replace c4 := Bool.eq_false_iff.mpr c4
  subst c4
  have H1 : ((spec_A2Word.f k l0 12).bind fun t393 => ((spec_A2Matched.f k l1 8).bind fun t394 => (if 1 + t394.size ≤ 9223372036854775807 then (if ((⟨#[91]⟩ : ByteArray) ++ t394).size + 1 ≤ 9223372036854775807 then ((laws_a2At.f l1 0 (wrap64 ((t393.size : Int) + 1))).bind fun t395 => ((impl_PutAt.f k t393 t395 (((⟨#[91]⟩ : ByteArray) ++ t394) ++ (⟨#[41]⟩ : ByteArray))).bind fun bt396 => ((impl_PartnersOf.f k t393).bind fun bt398 => ((impl_PartnersOf.f k bt396.1).bind fun bt402 => (if bt396.2 = 0 then (if bt398.2 = 0 then (if bt402.2 = 0 then (if 0 ≤ t395 then (if t395 ≤ (t393.size : Int) then (if (t393.extract 0 (t395 : Int).toNat).size + (((⟨#[91]⟩ : ByteArray) ++ t394) ++ (⟨#[41]⟩ : ByteArray)).size ≤ 9223372036854775807 then (if ((t393.extract 0 (t395 : Int).toNat) ++ (((⟨#[91]⟩ : ByteArray) ++ t394) ++ (⟨#[41]⟩ : ByteArray))).size + (t393.extract (t395 : Int).toNat t393.size).size ≤ 9223372036854775807 then (if bt396.1.toList = (((t393.extract 0 (t395 : Int).toNat) ++ (((⟨#[91]⟩ : ByteArray) ++ t394) ++ (⟨#[41]⟩ : ByteArray))) ++ (t393.extract (t395 : Int).toNat t393.size)).toList then (if (bt398.1.length : Int) = (t393.size : Int) then (laws_FnPutAndCut.j0 k t393 (((⟨#[91]⟩ : ByteArray) ++ t394) ++ (⟨#[41]⟩ : ByteArray)) t395 bt396.1 bt398.1 bt402.1 ((bt402.1.length : Int) != (bt396.1.size : Int))) else (laws_FnPutAndCut.j0 k t393 (((⟨#[91]⟩ : ByteArray) ++ t394) ++ (⟨#[41]⟩ : ByteArray)) t395 bt396.1 bt398.1 bt402.1 true)) else (laws_FnPutAndCut.j0 k t393 (((⟨#[91]⟩ : ByteArray) ++ t394) ++ (⟨#[41]⟩ : ByteArray)) t395 bt396.1 bt398.1 bt402.1 true)) else (none)) else (none)) else (none)) else (none)) else (laws_FnPutAndCut.j0 k t393 (((⟨#[91]⟩ : ByteArray) ++ t394) ++ (⟨#[41]⟩ : ByteArray)) t395 bt396.1 bt398.1 bt402.1 true)) else (laws_FnPutAndCut.j0 k t393 (((⟨#[91]⟩ : ByteArray) ++ t394) ++ (⟨#[41]⟩ : ByteArray)) t395 bt396.1 bt398.1 bt402.1 true)) else (laws_FnPutAndCut.j0 k t393 (((⟨#[91]⟩ : ByteArray) ++ t394) ++ (⟨#[41]⟩ : ByteArray)) t395 bt396.1 bt398.1 bt402.1 true)))))) else (none)) else (none)))) = some r := by rw [if_neg (show ¬ (false = true) by decide)] at H; exact H
  clear H
  have H := H1
  clear H1
  replace H := Option.bind_eq_some_iff.mp H
  obtain ⟨t393, A50, H⟩ := H
  replace H : ((spec_A2Matched.f k l1 8).bind fun t394 => (if 1 + t394.size ≤ 9223372036854775807 then (if ((⟨#[91]⟩ : ByteArray) ++ t394).size + 1 ≤ 9223372036854775807 then ((laws_a2At.f l1 0 (wrap64 ((t393.size : Int) + 1))).bind fun t395 => ((impl_PutAt.f k t393 t395 (((⟨#[91]⟩ : ByteArray) ++ t394) ++ (⟨#[41]⟩ : ByteArray))).bind fun bt396 => ((impl_PartnersOf.f k t393).bind fun bt398 => ((impl_PartnersOf.f k bt396.1).bind fun bt402 => (if bt396.2 = 0 then (if bt398.2 = 0 then (if bt402.2 = 0 then (if 0 ≤ t395 then (if t395 ≤ (t393.size : Int) then (if (t393.extract 0 (t395 : Int).toNat).size + (((⟨#[91]⟩ : ByteArray) ++ t394) ++ (⟨#[41]⟩ : ByteArray)).size ≤ 9223372036854775807 then (if ((t393.extract 0 (t395 : Int).toNat) ++ (((⟨#[91]⟩ : ByteArray) ++ t394) ++ (⟨#[41]⟩ : ByteArray))).size + (t393.extract (t395 : Int).toNat t393.size).size ≤ 9223372036854775807 then (if bt396.1.toList = (((t393.extract 0 (t395 : Int).toNat) ++ (((⟨#[91]⟩ : ByteArray) ++ t394) ++ (⟨#[41]⟩ : ByteArray))) ++ (t393.extract (t395 : Int).toNat t393.size)).toList then (if (bt398.1.length : Int) = (t393.size : Int) then (laws_FnPutAndCut.j0 k t393 (((⟨#[91]⟩ : ByteArray) ++ t394) ++ (⟨#[41]⟩ : ByteArray)) t395 bt396.1 bt398.1 bt402.1 ((bt402.1.length : Int) != (bt396.1.size : Int))) else (laws_FnPutAndCut.j0 k t393 (((⟨#[91]⟩ : ByteArray) ++ t394) ++ (⟨#[41]⟩ : ByteArray)) t395 bt396.1 bt398.1 bt402.1 true)) else (laws_FnPutAndCut.j0 k t393 (((⟨#[91]⟩ : ByteArray) ++ t394) ++ (⟨#[41]⟩ : ByteArray)) t395 bt396.1 bt398.1 bt402.1 true)) else (none)) else (none)) else (none)) else (none)) else (laws_FnPutAndCut.j0 k t393 (((⟨#[91]⟩ : ByteArray) ++ t394) ++ (⟨#[41]⟩ : ByteArray)) t395 bt396.1 bt398.1 bt402.1 true)) else (laws_FnPutAndCut.j0 k t393 (((⟨#[91]⟩ : ByteArray) ++ t394) ++ (⟨#[41]⟩ : ByteArray)) t395 bt396.1 bt398.1 bt402.1 true)) else (laws_FnPutAndCut.j0 k t393 (((⟨#[91]⟩ : ByteArray) ++ t394) ++ (⟨#[41]⟩ : ByteArray)) t395 bt396.1 bt398.1 bt402.1 true)))))) else (none)) else (none))) = some r := H
  have A5 := Aside0.mk A50
  clear A50
  replace H := Option.bind_eq_some_iff.mp H
  obtain ⟨t394, A60, H⟩ := H
  replace H : (if 1 + t394.size ≤ 9223372036854775807 then (if ((⟨#[91]⟩ : ByteArray) ++ t394).size + 1 ≤ 9223372036854775807 then ((laws_a2At.f l1 0 (wrap64 ((t393.size : Int) + 1))).bind fun t395 => ((impl_PutAt.f k t393 t395 (((⟨#[91]⟩ : ByteArray) ++ t394) ++ (⟨#[41]⟩ : ByteArray))).bind fun bt396 => ((impl_PartnersOf.f k t393).bind fun bt398 => ((impl_PartnersOf.f k bt396.1).bind fun bt402 => (if bt396.2 = 0 then (if bt398.2 = 0 then (if bt402.2 = 0 then (if 0 ≤ t395 then (if t395 ≤ (t393.size : Int) then (if (t393.extract 0 (t395 : Int).toNat).size + (((⟨#[91]⟩ : ByteArray) ++ t394) ++ (⟨#[41]⟩ : ByteArray)).size ≤ 9223372036854775807 then (if ((t393.extract 0 (t395 : Int).toNat) ++ (((⟨#[91]⟩ : ByteArray) ++ t394) ++ (⟨#[41]⟩ : ByteArray))).size + (t393.extract (t395 : Int).toNat t393.size).size ≤ 9223372036854775807 then (if bt396.1.toList = (((t393.extract 0 (t395 : Int).toNat) ++ (((⟨#[91]⟩ : ByteArray) ++ t394) ++ (⟨#[41]⟩ : ByteArray))) ++ (t393.extract (t395 : Int).toNat t393.size)).toList then (if (bt398.1.length : Int) = (t393.size : Int) then (laws_FnPutAndCut.j0 k t393 (((⟨#[91]⟩ : ByteArray) ++ t394) ++ (⟨#[41]⟩ : ByteArray)) t395 bt396.1 bt398.1 bt402.1 ((bt402.1.length : Int) != (bt396.1.size : Int))) else (laws_FnPutAndCut.j0 k t393 (((⟨#[91]⟩ : ByteArray) ++ t394) ++ (⟨#[41]⟩ : ByteArray)) t395 bt396.1 bt398.1 bt402.1 true)) else (laws_FnPutAndCut.j0 k t393 (((⟨#[91]⟩ : ByteArray) ++ t394) ++ (⟨#[41]⟩ : ByteArray)) t395 bt396.1 bt398.1 bt402.1 true)) else (none)) else (none)) else (none)) else (none)) else (laws_FnPutAndCut.j0 k t393 (((⟨#[91]⟩ : ByteArray) ++ t394) ++ (⟨#[41]⟩ : ByteArray)) t395 bt396.1 bt398.1 bt402.1 true)) else (laws_FnPutAndCut.j0 k t393 (((⟨#[91]⟩ : ByteArray) ++ t394) ++ (⟨#[41]⟩ : ByteArray)) t395 bt396.1 bt398.1 bt402.1 true)) else (laws_FnPutAndCut.j0 k t393 (((⟨#[91]⟩ : ByteArray) ++ t394) ++ (⟨#[41]⟩ : ByteArray)) t395 bt396.1 bt398.1 bt402.1 true)))))) else (none)) else (none)) = some r := H
  have A6 := Aside0.mk A60
  clear A60
  by_cases c7 : 1 + t394.size ≤ 9223372036854775807
  ·rw [if_pos c7] at H
   have c7b0 := eq_true c7
   have c7b1 : decide (1 + t394.size ≤ 9223372036854775807) = true := decide_eq_true c7
   try have c7b2 : (9223372036854775807 < 1 + t394.size) = False := eq_false (Nat.not_lt.2 c7)
   by_cases c8 : ((⟨#[91]⟩ : ByteArray) ++ t394).size + 1 ≤ 9223372036854775807
   ·rw [if_pos c8] at H
    have c8b0 := eq_true c8
    have c8b1 : decide (((⟨#[91]⟩ : ByteArray) ++ t394).size + 1 ≤ 9223372036854775807) = true := decide_eq_true c8
    try have c8b2 : (9223372036854775807 < ((⟨#[91]⟩ : ByteArray) ++ t394).size + 1) = False := eq_false (Nat.not_lt.2 c8)
    (try have c8b3 : (9223372036854775807 < 1 + t394.size + 1) = False := eq_false (by have h_ := c8; simp only [ByteArray.size_append] at h_; exact Nat.not_lt.2 h_))
    (try have c8b4 : (1 + t394.size + 1 ≤ 9223372036854775807) = True := eq_true (by have h_ := c8; simp only [ByteArray.size_append] at h_; exact h_))
    replace H := Option.bind_eq_some_iff.mp H
    obtain ⟨t395, A90, H⟩ := H
    replace H : ((impl_PutAt.f k t393 t395 (((⟨#[91]⟩ : ByteArray) ++ t394) ++ (⟨#[41]⟩ : ByteArray))).bind fun bt396 => ((impl_PartnersOf.f k t393).bind fun bt398 => ((impl_PartnersOf.f k bt396.1).bind fun bt402 => (if bt396.2 = 0 then (if bt398.2 = 0 then (if bt402.2 = 0 then (if 0 ≤ t395 then (if t395 ≤ (t393.size : Int) then (if (t393.extract 0 (t395 : Int).toNat).size + (((⟨#[91]⟩ : ByteArray) ++ t394) ++ (⟨#[41]⟩ : ByteArray)).size ≤ 9223372036854775807 then (if ((t393.extract 0 (t395 : Int).toNat) ++ (((⟨#[91]⟩ : ByteArray) ++ t394) ++ (⟨#[41]⟩ : ByteArray))).size + (t393.extract (t395 : Int).toNat t393.size).size ≤ 9223372036854775807 then (if bt396.1.toList = (((t393.extract 0 (t395 : Int).toNat) ++ (((⟨#[91]⟩ : ByteArray) ++ t394) ++ (⟨#[41]⟩ : ByteArray))) ++ (t393.extract (t395 : Int).toNat t393.size)).toList then (if (bt398.1.length : Int) = (t393.size : Int) then (laws_FnPutAndCut.j0 k t393 (((⟨#[91]⟩ : ByteArray) ++ t394) ++ (⟨#[41]⟩ : ByteArray)) t395 bt396.1 bt398.1 bt402.1 ((bt402.1.length : Int) != (bt396.1.size : Int))) else (laws_FnPutAndCut.j0 k t393 (((⟨#[91]⟩ : ByteArray) ++ t394) ++ (⟨#[41]⟩ : ByteArray)) t395 bt396.1 bt398.1 bt402.1 true)) else (laws_FnPutAndCut.j0 k t393 (((⟨#[91]⟩ : ByteArray) ++ t394) ++ (⟨#[41]⟩ : ByteArray)) t395 bt396.1 bt398.1 bt402.1 true)) else (none)) else (none)) else (none)) else (none)) else (laws_FnPutAndCut.j0 k t393 (((⟨#[91]⟩ : ByteArray) ++ t394) ++ (⟨#[41]⟩ : ByteArray)) t395 bt396.1 bt398.1 bt402.1 true)) else (laws_FnPutAndCut.j0 k t393 (((⟨#[91]⟩ : ByteArray) ++ t394) ++ (⟨#[41]⟩ : ByteArray)) t395 bt396.1 bt398.1 bt402.1 true)) else (laws_FnPutAndCut.j0 k t393 (((⟨#[91]⟩ : ByteArray) ++ t394) ++ (⟨#[41]⟩ : ByteArray)) t395 bt396.1 bt398.1 bt402.1 true))))) = some r := H
    have A9 := Aside0.mk A90
    clear A90
    replace H := Option.bind_eq_some_iff.mp H
    obtain ⟨⟨t396, t397⟩, A100, H⟩ := H
    replace H : ((impl_PartnersOf.f k t393).bind fun bt398 => ((impl_PartnersOf.f k t396).bind fun bt402 => (if t397 = 0 then (if bt398.2 = 0 then (if bt402.2 = 0 then (if 0 ≤ t395 then (if t395 ≤ (t393.size : Int) then (if (t393.extract 0 (t395 : Int).toNat).size + (((⟨#[91]⟩ : ByteArray) ++ t394) ++ (⟨#[41]⟩ : ByteArray)).size ≤ 9223372036854775807 then (if ((t393.extract 0 (t395 : Int).toNat) ++ (((⟨#[91]⟩ : ByteArray) ++ t394) ++ (⟨#[41]⟩ : ByteArray))).size + (t393.extract (t395 : Int).toNat t393.size).size ≤ 9223372036854775807 then (if t396.toList = (((t393.extract 0 (t395 : Int).toNat) ++ (((⟨#[91]⟩ : ByteArray) ++ t394) ++ (⟨#[41]⟩ : ByteArray))) ++ (t393.extract (t395 : Int).toNat t393.size)).toList then (if (bt398.1.length : Int) = (t393.size : Int) then (laws_FnPutAndCut.j0 k t393 (((⟨#[91]⟩ : ByteArray) ++ t394) ++ (⟨#[41]⟩ : ByteArray)) t395 t396 bt398.1 bt402.1 ((bt402.1.length : Int) != (t396.size : Int))) else (laws_FnPutAndCut.j0 k t393 (((⟨#[91]⟩ : ByteArray) ++ t394) ++ (⟨#[41]⟩ : ByteArray)) t395 t396 bt398.1 bt402.1 true)) else (laws_FnPutAndCut.j0 k t393 (((⟨#[91]⟩ : ByteArray) ++ t394) ++ (⟨#[41]⟩ : ByteArray)) t395 t396 bt398.1 bt402.1 true)) else (none)) else (none)) else (none)) else (none)) else (laws_FnPutAndCut.j0 k t393 (((⟨#[91]⟩ : ByteArray) ++ t394) ++ (⟨#[41]⟩ : ByteArray)) t395 t396 bt398.1 bt402.1 true)) else (laws_FnPutAndCut.j0 k t393 (((⟨#[91]⟩ : ByteArray) ++ t394) ++ (⟨#[41]⟩ : ByteArray)) t395 t396 bt398.1 bt402.1 true)) else (laws_FnPutAndCut.j0 k t393 (((⟨#[91]⟩ : ByteArray) ++ t394) ++ (⟨#[41]⟩ : ByteArray)) t395 t396 bt398.1 bt402.1 true)))) = some r := H
    have A10 := Aside0.mk A100
    clear A100
    replace H := Option.bind_eq_some_iff.mp H
    obtain ⟨⟨t398, t399⟩, A110, H⟩ := H
    replace H : ((impl_PartnersOf.f k t396).bind fun bt402 => (if t397 = 0 then (if t399 = 0 then (if bt402.2 = 0 then (if 0 ≤ t395 then (if t395 ≤ (t393.size : Int) then (if (t393.extract 0 (t395 : Int).toNat).size + (((⟨#[91]⟩ : ByteArray) ++ t394) ++ (⟨#[41]⟩ : ByteArray)).size ≤ 9223372036854775807 then (if ((t393.extract 0 (t395 : Int).toNat) ++ (((⟨#[91]⟩ : ByteArray) ++ t394) ++ (⟨#[41]⟩ : ByteArray))).size + (t393.extract (t395 : Int).toNat t393.size).size ≤ 9223372036854775807 then (if t396.toList = (((t393.extract 0 (t395 : Int).toNat) ++ (((⟨#[91]⟩ : ByteArray) ++ t394) ++ (⟨#[41]⟩ : ByteArray))) ++ (t393.extract (t395 : Int).toNat t393.size)).toList then (if (t398.length : Int) = (t393.size : Int) then (laws_FnPutAndCut.j0 k t393 (((⟨#[91]⟩ : ByteArray) ++ t394) ++ (⟨#[41]⟩ : ByteArray)) t395 t396 t398 bt402.1 ((bt402.1.length : Int) != (t396.size : Int))) else (laws_FnPutAndCut.j0 k t393 (((⟨#[91]⟩ : ByteArray) ++ t394) ++ (⟨#[41]⟩ : ByteArray)) t395 t396 t398 bt402.1 true)) else (laws_FnPutAndCut.j0 k t393 (((⟨#[91]⟩ : ByteArray) ++ t394) ++ (⟨#[41]⟩ : ByteArray)) t395 t396 t398 bt402.1 true)) else (none)) else (none)) else (none)) else (none)) else (laws_FnPutAndCut.j0 k t393 (((⟨#[91]⟩ : ByteArray) ++ t394) ++ (⟨#[41]⟩ : ByteArray)) t395 t396 t398 bt402.1 true)) else (laws_FnPutAndCut.j0 k t393 (((⟨#[91]⟩ : ByteArray) ++ t394) ++ (⟨#[41]⟩ : ByteArray)) t395 t396 t398 bt402.1 true)) else (laws_FnPutAndCut.j0 k t393 (((⟨#[91]⟩ : ByteArray) ++ t394) ++ (⟨#[41]⟩ : ByteArray)) t395 t396 t398 bt402.1 true))) = some r := H
    have A11 := Aside0.mk A110
    clear A110
    replace H := Option.bind_eq_some_iff.mp H
    obtain ⟨⟨t402, t403⟩, A120, H⟩ := H
    replace H : (if t397 = 0 then (if t399 = 0 then (if t403 = 0 then (if 0 ≤ t395 then (if t395 ≤ (t393.size : Int) then (if (t393.extract 0 (t395 : Int).toNat).size + (((⟨#[91]⟩ : ByteArray) ++ t394) ++ (⟨#[41]⟩ : ByteArray)).size ≤ 9223372036854775807 then (if ((t393.extract 0 (t395 : Int).toNat) ++ (((⟨#[91]⟩ : ByteArray) ++ t394) ++ (⟨#[41]⟩ : ByteArray))).size + (t393.extract (t395 : Int).toNat t393.size).size ≤ 9223372036854775807 then (if t396.toList = (((t393.extract 0 (t395 : Int).toNat) ++ (((⟨#[91]⟩ : ByteArray) ++ t394) ++ (⟨#[41]⟩ : ByteArray))) ++ (t393.extract (t395 : Int).toNat t393.size)).toList then (if (t398.length : Int) = (t393.size : Int) then (laws_FnPutAndCut.j0 k t393 (((⟨#[91]⟩ : ByteArray) ++ t394) ++ (⟨#[41]⟩ : ByteArray)) t395 t396 t398 t402 ((t402.length : Int) != (t396.size : Int))) else (laws_FnPutAndCut.j0 k t393 (((⟨#[91]⟩ : ByteArray) ++ t394) ++ (⟨#[41]⟩ : ByteArray)) t395 t396 t398 t402 true)) else (laws_FnPutAndCut.j0 k t393 (((⟨#[91]⟩ : ByteArray) ++ t394) ++ (⟨#[41]⟩ : ByteArray)) t395 t396 t398 t402 true)) else (none)) else (none)) else (none)) else (none)) else (laws_FnPutAndCut.j0 k t393 (((⟨#[91]⟩ : ByteArray) ++ t394) ++ (⟨#[41]⟩ : ByteArray)) t395 t396 t398 t402 true)) else (laws_FnPutAndCut.j0 k t393 (((⟨#[91]⟩ : ByteArray) ++ t394) ++ (⟨#[41]⟩ : ByteArray)) t395 t396 t398 t402 true)) else (laws_FnPutAndCut.j0 k t393 (((⟨#[91]⟩ : ByteArray) ++ t394) ++ (⟨#[41]⟩ : ByteArray)) t395 t396 t398 t402 true)) = some r := H
    have A12 := Aside0.mk A120
    clear A120
    have HC13 := Aside0.mk H
    clear H
    go_enter Try.func3, Try.ntmps3
    go_upto_region 9 with (first | (go_at_call 9; (with_reducible refine (laws_a2Long.calls _ _ l0 _ _ l1 false _ ?side1 ?side2 ?side3 ?side4 A3.out).mono ?_); (case side1 => repeat (first | exact HR0.out | (with_reducible refine Kd.C_alloc ?_ _) | (with_reducible refine Kd.C_drewN ?_ _) | (with_reducible refine Kd.C_drew ?_))); (case side2 => exact HC0.out); (case side3 => repeat (first | exact HR1.out | (with_reducible refine Kd.C_alloc ?_ _) | (with_reducible refine Kd.C_drewN ?_ _) | (with_reducible refine Kd.C_drew ?_))); (case side4 => exact HC1.out); rintro e w' ⟨rfl, ⟨nd, rfl⟩⟩; (try first | exact ⟨rfl, _, World.drewN_drewN _ _ _⟩ | exact ⟨rfl, _, Eq.trans (World.drewN_drewN _ _ _) (congrArg (World.drewN _) (Nat.add_assoc _ _ _))⟩)) | (go_at_call 10; (with_reducible refine (spec_A2Word.calls k _ _ l0 12 t393 _ ?side1 ?side2 A5.out).mono ?_); (case side1 => repeat (first | exact HR0.out | (with_reducible refine Kd.C_alloc ?_ _) | (with_reducible refine Kd.C_drewN ?_ _) | (with_reducible refine Kd.C_drew ?_))); (case side2 => exact HC0.out); rintro e w14 ⟨rfl, hb⟩; have n0_ := Aside0.mk (below_step (by repeat (first | (with_reducible first | exact HB.out | apply below_alloc | apply pw_below_drewN | apply below_drew1) | exact HB.out)) hb); clear HB; have HB := n0_; clear n0_; (try clear hb); (try clear hb2); (try clear hk); (try clear hi)) | (go_at_call 11; (with_reducible refine (spec_A2Matched.calls k _ _ l1 8 t394 _ ?side1 ?side2 A6.out).mono ?_); (case side1 => repeat (first | exact (Kd.C_below HR1.out HB.out) | (with_reducible refine Kd.C_alloc ?_ _) | (with_reducible refine Kd.C_drewN ?_ _) | (with_reducible refine Kd.C_drew ?_))); (case side2 => exact HC1.out); rintro e w15 ⟨rfl, hb⟩; have n0_ := Aside0.mk (below_step (by repeat (first | (with_reducible first | exact HB.out | apply below_alloc | apply pw_below_drewN | apply below_drew1) | exact HB.out)) hb); clear HB; have HB := n0_; clear n0_; (try clear hb); (try clear hb2); (try clear hk); (try clear hi)) | (go_at_call 12; (with_reducible refine (laws_a2At.calls _ _ l1 0 (wrap64 ((t393.size : Int) + 1)) t395 _ ?side1 ?side2 A9.out).mono ?_); (case side1 => repeat (first | exact (Kd.C_below HR1.out HB.out) | (with_reducible refine Kd.C_alloc ?_ _) | (with_reducible refine Kd.C_drewN ?_ _) | (with_reducible refine Kd.C_drew ?_))); (case side2 => exact HC1.out); rintro e w' ⟨rfl, ⟨nd, rfl⟩⟩; (try first | exact ⟨rfl, _, World.drewN_drewN _ _ _⟩ | exact ⟨rfl, _, Eq.trans (World.drewN_drewN _ _ _) (congrArg (World.drewN _) (Nat.add_assoc _ _ _))⟩)) | (go_at_call 13; (with_reducible refine (impl_PutAt.calls k t393 t395 (((⟨#[91]⟩ : ByteArray) ++ t394) ++ (⟨#[41]⟩ : ByteArray)) t396 t397 _ A10.out).mono ?_); rintro e w16 ⟨rfl, hb⟩; have n0_ := Aside0.mk (below_step (by repeat (first | (with_reducible first | exact HB.out | apply below_alloc | apply pw_below_drewN | apply below_drew1) | exact HB.out)) hb); clear HB; have HB := n0_; clear n0_; (try clear hb); (try clear hb2); (try clear hk); (try clear hi)) | (go_at_call 14; (with_reducible refine (impl_PartnersOf.calls k t393 t398 t399 _ A11.out).mono ?_); rintro e w17 ⟨v400, rfl, ho0, hb⟩; have n0_ := Aside0.mk (Kd.R_lower ho0 (below_size (by repeat (first | (with_reducible first | exact HB.out | apply below_alloc | apply pw_below_drewN | apply below_drew1) | exact HB.out)))); have n1_ := Aside0.mk (below_step (by repeat (first | (with_reducible first | exact HB.out | apply below_alloc | apply pw_below_drewN | apply below_drew1) | exact HB.out)) hb); clear HB; have HO401 := n0_; have HB := n1_; clear n0_ n1_; (try clear hb); (try clear hb2); (try clear hk); (try clear hi); (try clear ho0)) | (go_at_call 14; (with_reducible refine (impl_PartnersOf.calls k t396 t402 t403 _ A12.out).mono ?_); rintro e w18 ⟨v404, rfl, ho0, hb⟩; have n0_ := Aside0.mk (Kd.R_elder' (by (with_reducible repeat (first | apply Kd.R_alloc | apply Kd.R_drewN | apply Kd.R_drew)); exact HO401.out) (Kd.R_base ho0) hb); have n1_ := Aside0.mk (Kd.R_lower (Kd.R_new' ho0 (Kd.R_lt (by (with_reducible repeat (first | apply Kd.R_alloc | apply Kd.R_drewN | apply Kd.R_drew)); exact HO401.out))) (below_size (by repeat (first | (with_reducible first | exact HB.out | apply below_alloc | apply pw_below_drewN | apply below_drew1) | exact HB.out)))); have n2_ := Aside0.mk (below_step (by repeat (first | (with_reducible first | exact HB.out | apply below_alloc | apply pw_below_drewN | apply below_drew1) | exact HB.out)) hb); clear HO401; clear HB; have HO401 := n0_; have HO405 := n1_; have HB := n2_; clear n0_ n1_ n2_; (try clear hb); (try clear hb2); (try clear hk); (try clear hi); (try clear ho0)))
    repeat (go_quiet (first | (go_at_call 9; (with_reducible refine (laws_a2Long.calls _ _ l0 _ _ l1 false _ ?side1 ?side2 ?side3 ?side4 A3.out).mono ?_); (case side1 => repeat (first | exact HR0.out | (with_reducible refine Kd.C_alloc ?_ _) | (with_reducible refine Kd.C_drewN ?_ _) | (with_reducible refine Kd.C_drew ?_))); (case side2 => exact HC0.out); (case side3 => repeat (first | exact HR1.out | (with_reducible refine Kd.C_alloc ?_ _) | (with_reducible refine Kd.C_drewN ?_ _) | (with_reducible refine Kd.C_drew ?_))); (case side4 => exact HC1.out); rintro e w' ⟨rfl, ⟨nd, rfl⟩⟩; (try first | exact ⟨rfl, _, World.drewN_drewN _ _ _⟩ | exact ⟨rfl, _, Eq.trans (World.drewN_drewN _ _ _) (congrArg (World.drewN _) (Nat.add_assoc _ _ _))⟩)) | (go_at_call 10; (with_reducible refine (spec_A2Word.calls k _ _ l0 12 t393 _ ?side1 ?side2 A5.out).mono ?_); (case side1 => repeat (first | exact HR0.out | (with_reducible refine Kd.C_alloc ?_ _) | (with_reducible refine Kd.C_drewN ?_ _) | (with_reducible refine Kd.C_drew ?_))); (case side2 => exact HC0.out); rintro e w14 ⟨rfl, hb⟩; have n0_ := Aside0.mk (below_step (by repeat (first | (with_reducible first | exact HB.out | apply below_alloc | apply pw_below_drewN | apply below_drew1) | exact HB.out)) hb); clear HB; have HB := n0_; clear n0_; (try clear hb); (try clear hb2); (try clear hk); (try clear hi)) | (go_at_call 11; (with_reducible refine (spec_A2Matched.calls k _ _ l1 8 t394 _ ?side1 ?side2 A6.out).mono ?_); (case side1 => repeat (first | exact (Kd.C_below HR1.out HB.out) | (with_reducible refine Kd.C_alloc ?_ _) | (with_reducible refine Kd.C_drewN ?_ _) | (with_reducible refine Kd.C_drew ?_))); (case side2 => exact HC1.out); rintro e w15 ⟨rfl, hb⟩; have n0_ := Aside0.mk (below_step (by repeat (first | (with_reducible first | exact HB.out | apply below_alloc | apply pw_below_drewN | apply below_drew1) | exact HB.out)) hb); clear HB; have HB := n0_; clear n0_; (try clear hb); (try clear hb2); (try clear hk); (try clear hi)) | (go_at_call 12; (with_reducible refine (laws_a2At.calls _ _ l1 0 (wrap64 ((t393.size : Int) + 1)) t395 _ ?side1 ?side2 A9.out).mono ?_); (case side1 => repeat (first | exact (Kd.C_below HR1.out HB.out) | (with_reducible refine Kd.C_alloc ?_ _) | (with_reducible refine Kd.C_drewN ?_ _) | (with_reducible refine Kd.C_drew ?_))); (case side2 => exact HC1.out); rintro e w' ⟨rfl, ⟨nd, rfl⟩⟩; (try first | exact ⟨rfl, _, World.drewN_drewN _ _ _⟩ | exact ⟨rfl, _, Eq.trans (World.drewN_drewN _ _ _) (congrArg (World.drewN _) (Nat.add_assoc _ _ _))⟩)) | (go_at_call 13; (with_reducible refine (impl_PutAt.calls k t393 t395 (((⟨#[91]⟩ : ByteArray) ++ t394) ++ (⟨#[41]⟩ : ByteArray)) t396 t397 _ A10.out).mono ?_); rintro e w16 ⟨rfl, hb⟩; have n0_ := Aside0.mk (below_step (by repeat (first | (with_reducible first | exact HB.out | apply below_alloc | apply pw_below_drewN | apply below_drew1) | exact HB.out)) hb); clear HB; have HB := n0_; clear n0_; (try clear hb); (try clear hb2); (try clear hk); (try clear hi)) | (go_at_call 14; (with_reducible refine (impl_PartnersOf.calls k t393 t398 t399 _ A11.out).mono ?_); rintro e w17 ⟨v400, rfl, ho0, hb⟩; have n0_ := Aside0.mk (Kd.R_lower ho0 (below_size (by repeat (first | (with_reducible first | exact HB.out | apply below_alloc | apply pw_below_drewN | apply below_drew1) | exact HB.out)))); have n1_ := Aside0.mk (below_step (by repeat (first | (with_reducible first | exact HB.out | apply below_alloc | apply pw_below_drewN | apply below_drew1) | exact HB.out)) hb); clear HB; have HO401 := n0_; have HB := n1_; clear n0_ n1_; (try clear hb); (try clear hb2); (try clear hk); (try clear hi); (try clear ho0)) | (go_at_call 14; (with_reducible refine (impl_PartnersOf.calls k t396 t402 t403 _ A12.out).mono ?_); rintro e w18 ⟨v404, rfl, ho0, hb⟩; have n0_ := Aside0.mk (Kd.R_elder' (by (with_reducible repeat (first | apply Kd.R_alloc | apply Kd.R_drewN | apply Kd.R_drew)); exact HO401.out) (Kd.R_base ho0) hb); have n1_ := Aside0.mk (Kd.R_lower (Kd.R_new' ho0 (Kd.R_lt (by (with_reducible repeat (first | apply Kd.R_alloc | apply Kd.R_drewN | apply Kd.R_drew)); exact HO401.out))) (below_size (by repeat (first | (with_reducible first | exact HB.out | apply below_alloc | apply pw_below_drewN | apply below_drew1) | exact HB.out)))); have n2_ := Aside0.mk (below_step (by repeat (first | (with_reducible first | exact HB.out | apply below_alloc | apply pw_below_drewN | apply below_drew1) | exact HB.out)) hb); clear HO401; clear HB; have HO401 := n0_; have HO405 := n1_; have HB := n2_; clear n0_ n1_ n2_; (try clear hb); (try clear hb2); (try clear hk); (try clear hi); (try clear ho0))); go_upto_region 9 with (first | (go_at_call 9; (with_reducible refine (laws_a2Long.calls _ _ l0 _ _ l1 false _ ?side1 ?side2 ?side3 ?side4 A3.out).mono ?_); (case side1 => repeat (first | exact HR0.out | (with_reducible refine Kd.C_alloc ?_ _) | (with_reducible refine Kd.C_drewN ?_ _) | (with_reducible refine Kd.C_drew ?_))); (case side2 => exact HC0.out); (case side3 => repeat (first | exact HR1.out | (with_reducible refine Kd.C_alloc ?_ _) | (with_reducible refine Kd.C_drewN ?_ _) | (with_reducible refine Kd.C_drew ?_))); (case side4 => exact HC1.out); rintro e w' ⟨rfl, ⟨nd, rfl⟩⟩; (try first | exact ⟨rfl, _, World.drewN_drewN _ _ _⟩ | exact ⟨rfl, _, Eq.trans (World.drewN_drewN _ _ _) (congrArg (World.drewN _) (Nat.add_assoc _ _ _))⟩)) | (go_at_call 10; (with_reducible refine (spec_A2Word.calls k _ _ l0 12 t393 _ ?side1 ?side2 A5.out).mono ?_); (case side1 => repeat (first | exact HR0.out | (with_reducible refine Kd.C_alloc ?_ _) | (with_reducible refine Kd.C_drewN ?_ _) | (with_reducible refine Kd.C_drew ?_))); (case side2 => exact HC0.out); rintro e w14 ⟨rfl, hb⟩; have n0_ := Aside0.mk (below_step (by repeat (first | (with_reducible first | exact HB.out | apply below_alloc | apply pw_below_drewN | apply below_drew1) | exact HB.out)) hb); clear HB; have HB := n0_; clear n0_; (try clear hb); (try clear hb2); (try clear hk); (try clear hi)) | (go_at_call 11; (with_reducible refine (spec_A2Matched.calls k _ _ l1 8 t394 _ ?side1 ?side2 A6.out).mono ?_); (case side1 => repeat (first | exact (Kd.C_below HR1.out HB.out) | (with_reducible refine Kd.C_alloc ?_ _) | (with_reducible refine Kd.C_drewN ?_ _) | (with_reducible refine Kd.C_drew ?_))); (case side2 => exact HC1.out); rintro e w15 ⟨rfl, hb⟩; have n0_ := Aside0.mk (below_step (by repeat (first | (with_reducible first | exact HB.out | apply below_alloc | apply pw_below_drewN | apply below_drew1) | exact HB.out)) hb); clear HB; have HB := n0_; clear n0_; (try clear hb); (try clear hb2); (try clear hk); (try clear hi)) | (go_at_call 12; (with_reducible refine (laws_a2At.calls _ _ l1 0 (wrap64 ((t393.size : Int) + 1)) t395 _ ?side1 ?side2 A9.out).mono ?_); (case side1 => repeat (first | exact (Kd.C_below HR1.out HB.out) | (with_reducible refine Kd.C_alloc ?_ _) | (with_reducible refine Kd.C_drewN ?_ _) | (with_reducible refine Kd.C_drew ?_))); (case side2 => exact HC1.out); rintro e w' ⟨rfl, ⟨nd, rfl⟩⟩; (try first | exact ⟨rfl, _, World.drewN_drewN _ _ _⟩ | exact ⟨rfl, _, Eq.trans (World.drewN_drewN _ _ _) (congrArg (World.drewN _) (Nat.add_assoc _ _ _))⟩)) | (go_at_call 13; (with_reducible refine (impl_PutAt.calls k t393 t395 (((⟨#[91]⟩ : ByteArray) ++ t394) ++ (⟨#[41]⟩ : ByteArray)) t396 t397 _ A10.out).mono ?_); rintro e w16 ⟨rfl, hb⟩; have n0_ := Aside0.mk (below_step (by repeat (first | (with_reducible first | exact HB.out | apply below_alloc | apply pw_below_drewN | apply below_drew1) | exact HB.out)) hb); clear HB; have HB := n0_; clear n0_; (try clear hb); (try clear hb2); (try clear hk); (try clear hi)) | (go_at_call 14; (with_reducible refine (impl_PartnersOf.calls k t393 t398 t399 _ A11.out).mono ?_); rintro e w17 ⟨v400, rfl, ho0, hb⟩; have n0_ := Aside0.mk (Kd.R_lower ho0 (below_size (by repeat (first | (with_reducible first | exact HB.out | apply below_alloc | apply pw_below_drewN | apply below_drew1) | exact HB.out)))); have n1_ := Aside0.mk (below_step (by repeat (first | (with_reducible first | exact HB.out | apply below_alloc | apply pw_below_drewN | apply below_drew1) | exact HB.out)) hb); clear HB; have HO401 := n0_; have HB := n1_; clear n0_ n1_; (try clear hb); (try clear hb2); (try clear hk); (try clear hi); (try clear ho0)) | (go_at_call 14; (with_reducible refine (impl_PartnersOf.calls k t396 t402 t403 _ A12.out).mono ?_); rintro e w18 ⟨v404, rfl, ho0, hb⟩; have n0_ := Aside0.mk (Kd.R_elder' (by (with_reducible repeat (first | apply Kd.R_alloc | apply Kd.R_drewN | apply Kd.R_drew)); exact HO401.out) (Kd.R_base ho0) hb); have n1_ := Aside0.mk (Kd.R_lower (Kd.R_new' ho0 (Kd.R_lt (by (with_reducible repeat (first | apply Kd.R_alloc | apply Kd.R_drewN | apply Kd.R_drew)); exact HO401.out))) (below_size (by repeat (first | (with_reducible first | exact HB.out | apply below_alloc | apply pw_below_drewN | apply below_drew1) | exact HB.out)))); have n2_ := Aside0.mk (below_step (by repeat (first | (with_reducible first | exact HB.out | apply below_alloc | apply pw_below_drewN | apply below_drew1) | exact HB.out)) hb); clear HO401; clear HB; have HO401 := n0_; have HO405 := n1_; have HB := n2_; clear n0_ n1_ n2_; (try clear hb); (try clear hb2); (try clear hk); (try clear hi); (try clear ho0))))
    (try simp only [Act.put, List.setIfInBounds_toArray, List.set_cons_zero, List.set_cons_succ])
    go_cut [98] (fun v98 wc => ∃ (kq : Nat) (x98_12 : Bool), v98 = .bool x98_12 ∧ Aside0 (laws_FnPutAndCut.j0 kq t393 (((⟨#[91]⟩ : ByteArray) ++ t394) ++ (⟨#[41]⟩ : ByteArray)) t395 t396 t398 t402 x98_12 = some r) ∧ Aside0 (kq ≤ k) ∧ Aside0 (Kd.R (Kd.int .i64) 2 wc w.heap.size (fun k_ => some k_ ≠ (v404 : Value).ownBlock) v400 t398) ∧ Aside0 (Kd.R (Kd.int .i64) 2 wc w.heap.size (fun k_ => some k_ ≠ (v400 : Value).ownBlock) v404 t402) ∧ Aside0 (Below w.heap.size w wc))
    case first =>
     have H := HC13.out
     clear HC13
     by_cases c19 : t397 = 0
     ·rw [if_pos c19] at H
      have c19b0 : (t397 == 0) = true := beq_iff_eq.mpr c19
      have c19b1 : (t397 != 0) = false := bne_eq_false_iff_eq.mpr c19
      clear c19
      (first | rw [c19b0] | rw [c19b1] | (simp only [i64_w, i32_w]; rw [c19b0]) | skip)
      by_cases c20 : t399 = 0
      ·rw [if_pos c20] at H
       have c20b0 : (t399 == 0) = true := beq_iff_eq.mpr c20
       have c20b1 : (t399 != 0) = false := bne_eq_false_iff_eq.mpr c20
       clear c20
       by_cases c21 : t403 = 0
       ·rw [if_pos c21] at H
        have c21b0 : (t403 == 0) = true := beq_iff_eq.mpr c21
        have c21b1 : (t403 != 0) = false := bne_eq_false_iff_eq.mpr c21
        clear c21
        by_cases c22 : 0 ≤ t395
        ·rw [if_pos c22] at H
         have c22b0 := eq_true c22
         have c22b1 : decide (0 ≤ t395) = true := decide_eq_true c22
         clear c22
         by_cases c23 : t395 ≤ (t393.size : Int)
         ·rw [if_pos c23] at H
          have c23b0 := eq_true c23
          have c23b1 : decide (t395 ≤ (t393.size : Int)) = true := decide_eq_true c23
          clear c23
          by_cases c24 : (t393.extract 0 (t395 : Int).toNat).size + (((⟨#[91]⟩ : ByteArray) ++ t394) ++ (⟨#[41]⟩ : ByteArray)).size ≤ 9223372036854775807
          ·rw [if_pos c24] at H
           have c24b0 := eq_true c24
           have c24b1 : decide ((t393.extract 0 (t395 : Int).toNat).size + (((⟨#[91]⟩ : ByteArray) ++ t394) ++ (⟨#[41]⟩ : ByteArray)).size ≤ 9223372036854775807) = true := decide_eq_true c24
           try have c24b2 : (9223372036854775807 < (t393.extract 0 (t395 : Int).toNat).size + (((⟨#[91]⟩ : ByteArray) ++ t394) ++ (⟨#[41]⟩ : ByteArray)).size) = False := eq_false (Nat.not_lt.2 c24)
           (try have c24b3 : (9223372036854775807 < (t393.extract 0 (t395 : Int).toNat).size + (1 + t394.size + 1)) = False := eq_false (by have h_ := c24; simp only [ByteArray.size_append] at h_; exact Nat.not_lt.2 h_))
           (try have c24b4 : ((t393.extract 0 (t395 : Int).toNat).size + (1 + t394.size + 1) ≤ 9223372036854775807) = True := eq_true (by have h_ := c24; simp only [ByteArray.size_append] at h_; exact h_))
           have c25b0 := eq_true (of_decide_eq_true (by first | (with_reducible assumption) | assumption) : 0 ≤ t395)
           have c26b0 := eq_true (of_decide_eq_true (by first | (with_reducible assumption) | assumption) : t395 ≤ (t393.size : Int))
           by_cases c27 : ((t393.extract 0 (t395 : Int).toNat) ++ (((⟨#[91]⟩ : ByteArray) ++ t394) ++ (⟨#[41]⟩ : ByteArray))).size + (t393.extract (t395 : Int).toNat t393.size).size ≤ 9223372036854775807
           ·rw [if_pos c27] at H
            have c27b0 := eq_true c27
            have c27b1 : decide (((t393.extract 0 (t395 : Int).toNat) ++ (((⟨#[91]⟩ : ByteArray) ++ t394) ++ (⟨#[41]⟩ : ByteArray))).size + (t393.extract (t395 : Int).toNat t393.size).size ≤ 9223372036854775807) = true := decide_eq_true c27
            try have c27b2 : (9223372036854775807 < ((t393.extract 0 (t395 : Int).toNat) ++ (((⟨#[91]⟩ : ByteArray) ++ t394) ++ (⟨#[41]⟩ : ByteArray))).size + (t393.extract (t395 : Int).toNat t393.size).size) = False := eq_false (Nat.not_lt.2 c27)
            (try have c27b3 : (9223372036854775807 < (t393.extract 0 (t395 : Int).toNat).size + (1 + t394.size + 1) + (t393.extract (t395 : Int).toNat t393.size).size) = False := eq_false (by have h_ := c27; simp only [ByteArray.size_append] at h_; exact Nat.not_lt.2 h_))
            (try have c27b4 : ((t393.extract 0 (t395 : Int).toNat).size + (1 + t394.size + 1) + (t393.extract (t395 : Int).toNat t393.size).size ≤ 9223372036854775807) = True := eq_true (by have h_ := c27; simp only [ByteArray.size_append] at h_; exact h_))
            by_cases c28 : t396.toList = (((t393.extract 0 (t395 : Int).toNat) ++ (((⟨#[91]⟩ : ByteArray) ++ t394) ++ (⟨#[41]⟩ : ByteArray))) ++ (t393.extract (t395 : Int).toNat t393.size)).toList
            ·rw [if_pos c28] at H
             have c28b0 : (t396.toList == (((t393.extract 0 (t395 : Int).toNat) ++ (((⟨#[91]⟩ : ByteArray) ++ t394) ++ (⟨#[41]⟩ : ByteArray))) ++ (t393.extract (t395 : Int).toNat t393.size)).toList) = true := beq_iff_eq.mpr c28
             have c28b1 : (t396.toList != (((t393.extract 0 (t395 : Int).toNat) ++ (((⟨#[91]⟩ : ByteArray) ++ t394) ++ (⟨#[41]⟩ : ByteArray))) ++ (t393.extract (t395 : Int).toNat t393.size)).toList) = false := bne_eq_false_iff_eq.mpr c28
             clear c28
             by_cases c29 : (t398.length : Int) = (t393.size : Int)
             ·rw [if_pos c29] at H
              have c29b0 : ((t398.length : Int) == (t393.size : Int)) = true := beq_iff_eq.mpr c29
              have c29b1 : ((t398.length : Int) != (t393.size : Int)) = false := bne_eq_false_iff_eq.mpr c29
              have c29b2 : (t398.length == t393.size) = true := by first | simpa using c29 | (simp at c29 ⊢; omega)
              clear c29
              have H' := Aside0.mk H
              clear H
              obtain ⟨Ao30, co30, eo30⟩ := Kd.R_slice HO401.out
              subst eo30
              obtain ⟨Ao31, co31, eo31⟩ := Kd.R_slice HO405.out
              subst eo31
              go_wp2
              repeat (go_quiet (fail); try go_wp2)
              go_meet
              case rel => exact ⟨_, (((t402.length : Int) != (t396.size : Int))), (by first | rfl | (simp; done) | (simp [*]; done)), H', ⟨by first | omega | exact Nat.le_refl _⟩, ⟨by (with_reducible repeat (first | apply Kd.R_alloc | apply Kd.R_drewN | apply Kd.R_drew)); exact Kd.R_mono HO401.out (fun _ hk => hk.2)⟩, ⟨by (with_reducible repeat (first | apply Kd.R_alloc | apply Kd.R_drewN | apply Kd.R_drew)); exact Kd.R_mono HO405.out (fun _ hk => hk.2)⟩, ⟨by repeat (first | (with_reducible first | exact HB.out | apply below_alloc | apply pw_below_drewN | apply below_drew1) | exact HB.out)⟩⟩
             ·rw [if_neg c29] at H
              have c29b0 : ((t398.length : Int) == (t393.size : Int)) = false := beq_eq_false_iff_ne.mpr c29
              have c29b1 : ((t398.length : Int) != (t393.size : Int)) = true := bne_iff_ne.mpr c29
              have c29b2 : (t398.length == t393.size) = false := by first | simpa using c29 | (simp at c29 ⊢; omega)
              have H' := Aside0.mk H
              clear H
              obtain ⟨Ao32, co32, eo32⟩ := Kd.R_slice HO401.out
              subst eo32
              go_wp2
              repeat (go_quiet (fail); try go_wp2)
              go_meet
              case rel => exact ⟨_, (true), (by first | rfl | (simp; done) | (simp [*]; done)), H', ⟨by first | omega | exact Nat.le_refl _⟩, ⟨by (with_reducible repeat (first | apply Kd.R_alloc | apply Kd.R_drewN | apply Kd.R_drew)); exact Kd.R_mono HO401.out (fun _ hk => hk.2)⟩, ⟨by (with_reducible repeat (first | apply Kd.R_alloc | apply Kd.R_drewN | apply Kd.R_drew)); exact Kd.R_mono HO405.out (fun _ hk => hk.2)⟩, ⟨by repeat (first | (with_reducible first | exact HB.out | apply below_alloc | apply pw_below_drewN | apply below_drew1) | exact HB.out)⟩⟩
            ·rw [if_neg c28] at H
             have c28b0 : (t396.toList == (((t393.extract 0 (t395 : Int).toNat) ++ (((⟨#[91]⟩ : ByteArray) ++ t394) ++ (⟨#[41]⟩ : ByteArray))) ++ (t393.extract (t395 : Int).toNat t393.size)).toList) = false := beq_eq_false_iff_ne.mpr c28
             have c28b1 : (t396.toList != (((t393.extract 0 (t395 : Int).toNat) ++ (((⟨#[91]⟩ : ByteArray) ++ t394) ++ (⟨#[41]⟩ : ByteArray))) ++ (t393.extract (t395 : Int).toNat t393.size)).toList) = true := bne_iff_ne.mpr c28
             have H' := Aside0.mk H
             clear H
             go_wp2
             repeat (go_quiet (fail); try go_wp2)
             go_meet
             case rel => exact ⟨_, (true), (by first | rfl | (simp; done) | (simp [*]; done)), H', ⟨by first | omega | exact Nat.le_refl _⟩, ⟨by (with_reducible repeat (first | apply Kd.R_alloc | apply Kd.R_drewN | apply Kd.R_drew)); exact Kd.R_mono HO401.out (fun _ hk => hk.2)⟩, ⟨by (with_reducible repeat (first | apply Kd.R_alloc | apply Kd.R_drewN | apply Kd.R_drew)); exact Kd.R_mono HO405.out (fun _ hk => hk.2)⟩, ⟨by repeat (first | (with_reducible first | exact HB.out | apply below_alloc | apply pw_below_drewN | apply below_drew1) | exact HB.out)⟩⟩
           ·rw [if_neg c27] at H
            exact absurd H (by simp)
          ·rw [if_neg c24] at H
           exact absurd H (by simp)
         ·rw [if_neg c23] at H
          exact absurd H (by simp)
        ·rw [if_neg c22] at H
         exact absurd H (by simp)
       ·rw [if_neg c21] at H
        have c21b0 : (t403 == 0) = false := beq_eq_false_iff_ne.mpr c21
        have c21b1 : (t403 != 0) = true := bne_iff_ne.mpr c21
        have H' := Aside0.mk H
        clear H
        go_wp2
        repeat (go_quiet (fail); try go_wp2)
        go_meet
        case rel => exact ⟨_, (true), (by first | rfl | (simp; done) | (simp [*]; done)), H', ⟨by first | omega | exact Nat.le_refl _⟩, ⟨by (with_reducible repeat (first | apply Kd.R_alloc | apply Kd.R_drewN | apply Kd.R_drew)); exact Kd.R_mono HO401.out (fun _ hk => hk.2)⟩, ⟨by (with_reducible repeat (first | apply Kd.R_alloc | apply Kd.R_drewN | apply Kd.R_drew)); exact Kd.R_mono HO405.out (fun _ hk => hk.2)⟩, ⟨by repeat (first | (with_reducible first | exact HB.out | apply below_alloc | apply pw_below_drewN | apply below_drew1) | exact HB.out)⟩⟩
      ·rw [if_neg c20] at H
       have c20b0 : (t399 == 0) = false := beq_eq_false_iff_ne.mpr c20
       have c20b1 : (t399 != 0) = true := bne_iff_ne.mpr c20
       have H' := Aside0.mk H
       clear H
       go_wp2
       repeat (go_quiet (fail); try go_wp2)
       go_meet
       case rel => exact ⟨_, (true), (by first | rfl | (simp; done) | (simp [*]; done)), H', ⟨by first | omega | exact Nat.le_refl _⟩, ⟨by (with_reducible repeat (first | apply Kd.R_alloc | apply Kd.R_drewN | apply Kd.R_drew)); exact Kd.R_mono HO401.out (fun _ hk => hk.2)⟩, ⟨by (with_reducible repeat (first | apply Kd.R_alloc | apply Kd.R_drewN | apply Kd.R_drew)); exact Kd.R_mono HO405.out (fun _ hk => hk.2)⟩, ⟨by repeat (first | (with_reducible first | exact HB.out | apply below_alloc | apply pw_below_drewN | apply below_drew1) | exact HB.out)⟩⟩
     ·rw [if_neg c19] at H
      have c19b0 : (t397 == 0) = false := beq_eq_false_iff_ne.mpr c19
      have c19b1 : (t397 != 0) = true := bne_iff_ne.mpr c19
      (first | rw [c19b0] | rw [c19b1] | (simp only [i64_w, i32_w]; rw [c19b0]) | skip)
      have H' := Aside0.mk H
      clear H
      go_wp2
      repeat (go_quiet (fail); try go_wp2)
      go_meet
      case rel => exact ⟨_, (true), (by first | rfl | (simp; done) | (simp [*]; done)), H', ⟨by first | omega | exact Nat.le_refl _⟩, ⟨by (with_reducible repeat (first | apply Kd.R_alloc | apply Kd.R_drewN | apply Kd.R_drew)); exact Kd.R_mono HO401.out (fun _ hk => hk.2)⟩, ⟨by (with_reducible repeat (first | apply Kd.R_alloc | apply Kd.R_drewN | apply Kd.R_drew)); exact Kd.R_mono HO405.out (fun _ hk => hk.2)⟩, ⟨by repeat (first | (with_reducible first | exact HB.out | apply below_alloc | apply pw_below_drewN | apply below_drew1) | exact HB.out)⟩⟩
    case rest =>
     clear HC13
     try clear c1
     try clear c2
     try clear p2
     try clear c3
     try clear c4
     try clear p6
     try clear c7
     try clear c7b0
     try clear c7b1
     try clear c7b2
     try clear c8
     try clear c8b0
     try clear c8b1
     try clear c8b2
     try clear c19
     try clear c19b0
     try clear c19b1
     try clear c20
     try clear c20b0
     try clear c20b1
     try clear c21
     try clear c21b0
     try clear c21b1
     try clear c22
     try clear c22b0
     try clear c22b1
     try clear c23
     try clear c23b0
     try clear c23b1
     try clear c24
     try clear c24b0
     try clear c24b1
     try clear c24b2
     try clear c25
     try clear c25b0
     try clear c26
     try clear c26b0
     try clear c27
     try clear c27b0
     try clear c27b1
     try clear c27b2
     try clear c28
     try clear c28b0
     try clear c28b1
     try clear c29
     try clear c29b0
     try clear c29b1
     try clear c29b2
     obtain ⟨kq, x98_12, rfl, HA, HJ12, HO_10, HO_12, HB⟩ := hcut
     cases kq with
     | zero => exact absurd HA.out (by simp [laws_FnPutAndCut.j0])
     | succ kj12 =>
      have H := HA.out
      clear HA
      simp only [laws_FnPutAndCut.j0] at H
      by_cases c33 : x98_12 = true
      ·subst c33
       have H1 : (some false) = some r := by rw [if_pos rfl] at H; exact H
       clear H
       have H := H1
       clear H1
       obtain rfl := Option.some.inj H
       go_wp2
       repeat (go_quiet (fail); try go_wp2)
       go_ret
       exact ⟨by first | rfl | (simp [errW_none, errW_some] <;> rfl) | (simp [*, errW_none, errW_some] <;> rfl), by repeat (first | (with_reducible first | exact HB.out | apply below_alloc | apply pw_below_drewN | apply below_drew1) | exact HB.out)⟩
      ·replace c33 := Bool.eq_false_iff.mpr c33
       subst c33
       have H1 : ((impl_CutMatched.f kj12 t396 t395).bind fun bt406 => (if bt406.2 = 0 then (laws_FnPutAndCut.j1 kj12 t393 (((⟨#[91]⟩ : ByteArray) ++ t394) ++ (⟨#[41]⟩ : ByteArray)) t395 t398 t402 (bt406.1.toList != t393.toList)) else (laws_FnPutAndCut.j1 kj12 t393 (((⟨#[91]⟩ : ByteArray) ++ t394) ++ (⟨#[41]⟩ : ByteArray)) t395 t398 t402 true))) = some r := by rw [if_neg (show ¬ (false = true) by decide)] at H; exact H
       clear H
       have H := H1
       clear H1
       replace H := Option.bind_eq_some_iff.mp H
       obtain ⟨⟨t406, t407⟩, A340, H⟩ := H
       replace H : (if t407 = 0 then (laws_FnPutAndCut.j1 kj12 t393 (((⟨#[91]⟩ : ByteArray) ++ t394) ++ (⟨#[41]⟩ : ByteArray)) t395 t398 t402 (t406.toList != t393.toList)) else (laws_FnPutAndCut.j1 kj12 t393 (((⟨#[91]⟩ : ByteArray) ++ t394) ++ (⟨#[41]⟩ : ByteArray)) t395 t398 t402 true)) = some r := H
       have A34 := Aside0.mk A340
       clear A340
       have HC35 := Aside0.mk H
       clear H
       go_upto_region 12 with (first | (go_at_call 15; (with_reducible refine (impl_CutMatched.calls kj12 t396 t395 t406 t407 _ A34.out).mono ?_); rintro e w36 ⟨rfl, hb⟩; have n0_ := Aside0.mk (Kd.R_below (by (with_reducible repeat (first | apply Kd.R_alloc | apply Kd.R_drewN | apply Kd.R_drew)); exact HO_10.out) hb); have n1_ := Aside0.mk (Kd.R_below (by (with_reducible repeat (first | apply Kd.R_alloc | apply Kd.R_drewN | apply Kd.R_drew)); exact HO_12.out) hb); have n2_ := Aside0.mk (below_step (by repeat (first | (with_reducible first | exact HB.out | apply below_alloc | apply pw_below_drewN | apply below_drew1) | exact HB.out)) hb); clear HO_10; clear HO_12; clear HB; have HO_10 := n0_; have HO_12 := n1_; have HB := n2_; clear n0_ n1_ n2_; (try clear hb); (try clear hb2); (try clear hk); (try clear hi)))
       repeat (go_quiet (first | (go_at_call 15; (with_reducible refine (impl_CutMatched.calls kj12 t396 t395 t406 t407 _ A34.out).mono ?_); rintro e w36 ⟨rfl, hb⟩; have n0_ := Aside0.mk (Kd.R_below (by (with_reducible repeat (first | apply Kd.R_alloc | apply Kd.R_drewN | apply Kd.R_drew)); exact HO_10.out) hb); have n1_ := Aside0.mk (Kd.R_below (by (with_reducible repeat (first | apply Kd.R_alloc | apply Kd.R_drewN | apply Kd.R_drew)); exact HO_12.out) hb); have n2_ := Aside0.mk (below_step (by repeat (first | (with_reducible first | exact HB.out | apply below_alloc | apply pw_below_drewN | apply below_drew1) | exact HB.out)) hb); clear HO_10; clear HO_12; clear HB; have HO_10 := n0_; have HO_12 := n1_; have HB := n2_; clear n0_ n1_ n2_; (try clear hb); (try clear hb2); (try clear hk); (try clear hi))); go_upto_region 12 with (first | (go_at_call 15; (with_reducible refine (impl_CutMatched.calls kj12 t396 t395 t406 t407 _ A34.out).mono ?_); rintro e w36 ⟨rfl, hb⟩; have n0_ := Aside0.mk (Kd.R_below (by (with_reducible repeat (first | apply Kd.R_alloc | apply Kd.R_drewN | apply Kd.R_drew)); exact HO_10.out) hb); have n1_ := Aside0.mk (Kd.R_below (by (with_reducible repeat (first | apply Kd.R_alloc | apply Kd.R_drewN | apply Kd.R_drew)); exact HO_12.out) hb); have n2_ := Aside0.mk (below_step (by repeat (first | (with_reducible first | exact HB.out | apply below_alloc | apply pw_below_drewN | apply below_drew1) | exact HB.out)) hb); clear HO_10; clear HO_12; clear HB; have HO_10 := n0_; have HO_12 := n1_; have HB := n2_; clear n0_ n1_ n2_; (try clear hb); (try clear hb2); (try clear hk); (try clear hi))))
       (try simp only [Act.put, List.setIfInBounds_toArray, List.set_cons_zero, List.set_cons_succ])
       go_cut [111] (fun v111 wc => ∃ (kq : Nat) (x111_34 : Bool), v111 = .bool x111_34 ∧ Aside0 (laws_FnPutAndCut.j1 kq t393 (((⟨#[91]⟩ : ByteArray) ++ t394) ++ (⟨#[41]⟩ : ByteArray)) t395 t398 t402 x111_34 = some r) ∧ Aside0 (kq ≤ kj12) ∧ Aside0 (Kd.R (Kd.int .i64) 2 wc w.heap.size (fun k_ => some k_ ≠ (v404 : Value).ownBlock) v400 t398) ∧ Aside0 (Kd.R (Kd.int .i64) 2 wc w.heap.size (fun k_ => some k_ ≠ (v400 : Value).ownBlock) v404 t402) ∧ Aside0 (Below w.heap.size w wc))
       case first =>
        have H := HC35.out
        clear HC35
        by_cases c37 : t407 = 0
        ·rw [if_pos c37] at H
         have c37b0 : (t407 == 0) = true := beq_iff_eq.mpr c37
         have c37b1 : (t407 != 0) = false := bne_eq_false_iff_eq.mpr c37
         clear c37
         (first | rw [c37b0] | rw [c37b1] | (simp only [i64_w, i32_w]; rw [c37b0]) | skip)
         have H' := Aside0.mk H
         clear H
         go_wp2
         repeat (go_quiet (fail); try go_wp2)
         go_meet
         case rel => exact ⟨_, ((t406.toList != t393.toList)), (by first | rfl | (simp; done) | (simp [*]; done)), H', ⟨by have := HJ12.out; first | omega | exact Nat.le_refl _⟩, ⟨by (with_reducible repeat (first | apply Kd.R_alloc | apply Kd.R_drewN | apply Kd.R_drew)); exact HO_10.out⟩, ⟨by (with_reducible repeat (first | apply Kd.R_alloc | apply Kd.R_drewN | apply Kd.R_drew)); exact HO_12.out⟩, ⟨by repeat (first | (with_reducible first | exact HB.out | apply below_alloc | apply pw_below_drewN | apply below_drew1) | exact HB.out)⟩⟩
        ·rw [if_neg c37] at H
         have c37b0 : (t407 == 0) = false := beq_eq_false_iff_ne.mpr c37
         have c37b1 : (t407 != 0) = true := bne_iff_ne.mpr c37
         (first | rw [c37b0] | rw [c37b1] | (simp only [i64_w, i32_w]; rw [c37b0]) | skip)
         have H' := Aside0.mk H
         clear H
         go_wp2
         repeat (go_quiet (fail); try go_wp2)
         go_meet
         case rel => exact ⟨_, (true), (by first | rfl | (simp; done) | (simp [*]; done)), H', ⟨by have := HJ12.out; first | omega | exact Nat.le_refl _⟩, ⟨by (with_reducible repeat (first | apply Kd.R_alloc | apply Kd.R_drewN | apply Kd.R_drew)); exact HO_10.out⟩, ⟨by (with_reducible repeat (first | apply Kd.R_alloc | apply Kd.R_drewN | apply Kd.R_drew)); exact HO_12.out⟩, ⟨by repeat (first | (with_reducible first | exact HB.out | apply below_alloc | apply pw_below_drewN | apply below_drew1) | exact HB.out)⟩⟩
       case rest =>
        clear HC35
        try clear c1
        try clear c2
        try clear p2
        try clear c3
        try clear c4
        try clear p6
        try clear c7
        try clear c7b0
        try clear c7b1
        try clear c7b2
        try clear c8
        try clear c8b0
        try clear c8b1
        try clear c8b2
        try clear c19
        try clear c19b0
        try clear c19b1
        try clear c20
        try clear c20b0
        try clear c20b1
        try clear c21
        try clear c21b0
        try clear c21b1
        try clear c22
        try clear c22b0
        try clear c22b1
        try clear c23
        try clear c23b0
        try clear c23b1
        try clear c24
        try clear c24b0
        try clear c24b1
        try clear c24b2
        try clear c25
        try clear c25b0
        try clear c26
        try clear c26b0
        try clear c27
        try clear c27b0
        try clear c27b1
        try clear c27b2
        try clear c28
        try clear c28b0
        try clear c28b1
        try clear c29
        try clear c29b0
        try clear c29b1
        try clear c29b2
        try clear c33
        try clear c37
        try clear c37b0
        try clear c37b1
        try clear p2
        try clear p6
        obtain ⟨kq, x111_34, rfl, HA, HJ34, HO_10, HO_12, HB⟩ := hcut
        cases kq with
        | zero => exact absurd HA.out (by simp [laws_FnPutAndCut.j1])
        | succ kj34 =>
         have H := HA.out
         clear HA
         simp only [laws_FnPutAndCut.j1] at H
         by_cases c38 : x111_34 = true
         ·subst c38
          have H1 : (some false) = some r := by rw [if_pos rfl] at H; exact H
          clear H
          have H := H1
          clear H1
          obtain rfl := Option.some.inj H
          go_wp2
          repeat (go_quiet (fail); try go_wp2)
          go_ret
          exact ⟨by first | rfl | (simp [errW_none, errW_some] <;> rfl) | (simp [*, errW_none, errW_some] <;> rfl), by repeat (first | (with_reducible first | exact HB.out | apply below_alloc | apply pw_below_drewN | apply below_drew1) | exact HB.out)⟩
         ·replace c38 := Bool.eq_false_iff.mpr c38
          subst c38
          have H1 : (laws_FnPutAndCut.l0 kj34 t393 (((⟨#[91]⟩ : ByteArray) ++ t394) ++ (⟨#[41]⟩ : ByteArray)) t395 t398 t402 ((((⟨#[91]⟩ : ByteArray) ++ t394) ++ (⟨#[41]⟩ : ByteArray)).size : Int) 0) = some r := by rw [if_neg (show ¬ (false = true) by decide)] at H; exact H
          clear H
          have H := H1
          clear H1
          have H' := Aside0.mk H
          clear H
          go_wp2
          repeat (go_quiet (fail); try go_wp2)
          go_loopg [17] kj34 (fun kq v17 w' => ∃ (x17_3 : Int), v17 = .int .i64 x17_3 ∧ Aside0 (laws_FnPutAndCut.l0 kq t393 (((⟨#[91]⟩ : ByteArray) ++ t394) ++ (⟨#[41]⟩ : ByteArray)) t395 t398 t402 ((((⟨#[91]⟩ : ByteArray) ++ t394) ++ (⟨#[41]⟩ : ByteArray)).size : Int) x17_3 = some r) ∧ Aside0 (kq ≤ kj34) ∧ Aside0 (Kd.R (Kd.int .i64) 2 w' w.heap.size (fun k_ => some k_ ≠ (v404 : Value).ownBlock) v400 t398) ∧ Aside0 (Kd.R (Kd.int .i64) 2 w' w.heap.size (fun k_ => some k_ ≠ (v400 : Value).ownBlock) v404 t402) ∧ Aside0 (Below w.heap.size w w'))
          case atStart => exact ⟨(0), (by first | rfl | (simp; done) | (simp [*]; done)), H', ⟨Nat.le_refl _⟩, ⟨by (with_reducible repeat (first | apply Kd.R_alloc | apply Kd.R_drewN | apply Kd.R_drew)); exact HO_10.out⟩, ⟨by (with_reducible repeat (first | apply Kd.R_alloc | apply Kd.R_drewN | apply Kd.R_drew)); exact HO_12.out⟩, ⟨by repeat (first | (with_reducible first | exact HB.out | apply below_alloc | apply pw_below_drewN | apply below_drew1) | exact HB.out)⟩⟩
          case round =>
           clear H'
           try clear c1
           try clear c2
           try clear p2
           try clear c3
           try clear c4
           try clear p6
           try clear c7
           try clear c7b0
           try clear c7b1
           try clear c7b2
           try clear c8
           try clear c8b0
           try clear c8b1
           try clear c8b2
           try clear c19
           try clear c19b0
           try clear c19b1
           try clear c20
           try clear c20b0
           try clear c20b1
           try clear c21
           try clear c21b0
           try clear c21b1
           try clear c22
           try clear c22b0
           try clear c22b1
           try clear c23
           try clear c23b0
           try clear c23b1
           try clear c24
           try clear c24b0
           try clear c24b1
           try clear c24b2
           try clear c25
           try clear c25b0
           try clear c26
           try clear c26b0
           try clear c27
           try clear c27b0
           try clear c27b1
           try clear c27b2
           try clear c28
           try clear c28b0
           try clear c28b1
           try clear c29
           try clear c29b0
           try clear c29b1
           try clear c29b2
           try clear c33
           try clear c37
           try clear c37b0
           try clear c37b1
           try clear c38
           try clear p2
           try clear p6
           obtain ⟨x17_3, rfl, HA, HK3, HO_10, HO_12, HB⟩ := hrel
           cases gk with
           | zero => exact absurd HA.out (by simp [laws_FnPutAndCut.l0])
           | succ k3 =>
            have H := HA.out
            clear HA
            simp only [laws_FnPutAndCut.l0] at H
            by_cases c39 : x17_3 < (t393.size : Int)
            ·rw [if_pos c39] at H
             have c39b0 : decide (x17_3 < (t393.size : Int)) = true := decide_eq_true c39
             clear c39
             have HC40 := Aside0.mk H
             clear H
             go_upto_if 123 with (fail)
             repeat (go_quiet (fail); go_upto_if 123 with (fail))
             go_cut [18] (fun v18 wc => ∃ (kq : Nat) (x18_39 : Int), v18 = .int .i64 x18_39 ∧ Aside0 (laws_FnPutAndCut.j3 kq t393 (((⟨#[91]⟩ : ByteArray) ++ t394) ++ (⟨#[41]⟩ : ByteArray)) t395 t398 t402 ((((⟨#[91]⟩ : ByteArray) ++ t394) ++ (⟨#[41]⟩ : ByteArray)).size : Int) x17_3 x18_39 = some r) ∧ Aside0 (kq ≤ k3) ∧ Aside0 (Kd.R (Kd.int .i64) 2 wc w.heap.size (fun k_ => some k_ ≠ (v404 : Value).ownBlock) v400 t398) ∧ Aside0 (Kd.R (Kd.int .i64) 2 wc w.heap.size (fun k_ => some k_ ≠ (v400 : Value).ownBlock) v404 t402) ∧ Aside0 (Below w.heap.size w wc))
             case first =>
              have H := HC40.out
              clear HC40
              by_cases c41 : x17_3 ≥ t395
              ·rw [if_pos c41] at H
               have c41b0 : decide (t395 ≤ x17_3) = true := decide_eq_true c41
               clear c41
               (first | rw [c41b0] | rw [c41b1] | (simp only [i64_w, i32_w]; rw [c41b0]) | skip)
               have H' := Aside0.mk H
               clear H
               go_wp2
               repeat (go_quiet (fail); try go_wp2)
               go_meet
               case rel => exact ⟨_, (wrap64 (x17_3 + ((((⟨#[91]⟩ : ByteArray) ++ t394) ++ (⟨#[41]⟩ : ByteArray)).size : Int))), (by first | (rw [laws_FnPutAndCut.len_]; done) | rfl | (simp; done) | (simp [*]; done)), H', ⟨by have := HJ12.out; have := HJ34.out; have := HK3.out; first | omega | exact Nat.le_refl _⟩, ⟨by (with_reducible repeat (first | apply Kd.R_alloc | apply Kd.R_drewN | apply Kd.R_drew)); exact HO_10.out⟩, ⟨by (with_reducible repeat (first | apply Kd.R_alloc | apply Kd.R_drewN | apply Kd.R_drew)); exact HO_12.out⟩, ⟨by repeat (first | (with_reducible first | exact HB.out | apply below_alloc | apply pw_below_drewN | apply below_drew1) | exact HB.out)⟩⟩
              ·rw [if_neg c41] at H
               have c41b0 : decide (t395 ≤ x17_3) = false := decide_eq_false c41
               clear c41
               (first | rw [c41b0] | rw [c41b1] | (simp only [i64_w, i32_w]; rw [c41b0]) | skip)
               have H' := Aside0.mk H
               clear H
               go_wp2
               repeat (go_quiet (fail); try go_wp2)
               go_meet
               case rel => exact ⟨_, (x17_3), (by first | rfl | (simp; done) | (simp [*]; done)), H', ⟨by have := HJ12.out; have := HJ34.out; have := HK3.out; first | omega | exact Nat.le_refl _⟩, ⟨by (with_reducible repeat (first | apply Kd.R_alloc | apply Kd.R_drewN | apply Kd.R_drew)); exact HO_10.out⟩, ⟨by (with_reducible repeat (first | apply Kd.R_alloc | apply Kd.R_drewN | apply Kd.R_drew)); exact HO_12.out⟩, ⟨by repeat (first | (with_reducible first | exact HB.out | apply below_alloc | apply pw_below_drewN | apply below_drew1) | exact HB.out)⟩⟩
             case rest =>
              clear HC40
              try clear c1
              try clear c2
              try clear p2
              try clear c3
              try clear c4
              try clear p6
              try clear c7
              try clear c7b0
              try clear c7b1
              try clear c7b2
              try clear c8
              try clear c8b0
              try clear c8b1
              try clear c8b2
              try clear c19
              try clear c19b0
              try clear c19b1
              try clear c20
              try clear c20b0
              try clear c20b1
              try clear c21
              try clear c21b0
              try clear c21b1
              try clear c22
              try clear c22b0
              try clear c22b1
              try clear c23
              try clear c23b0
              try clear c23b1
              try clear c24
              try clear c24b0
              try clear c24b1
              try clear c24b2
              try clear c25
              try clear c25b0
              try clear c26
              try clear c26b0
              try clear c27
              try clear c27b0
              try clear c27b1
              try clear c27b2
              try clear c28
              try clear c28b0
              try clear c28b1
              try clear c29
              try clear c29b0
              try clear c29b1
              try clear c29b2
              try clear c33
              try clear c37
              try clear c37b0
              try clear c37b1
              try clear c38
              try clear c39
              try clear c39b0
              try clear c41
              try clear c41b0
              try clear c41b1
              try clear p2
              try clear p6
              obtain ⟨kq, x18_39, rfl, HA, HJ39, HO_10, HO_12, HB⟩ := hcut
              cases kq with
              | zero => exact absurd HA.out (by simp [laws_FnPutAndCut.j3])
              | succ kj39 =>
               have H := HA.out
               clear HA
               simp only [laws_FnPutAndCut.j3] at H
               by_cases c42 : 0 ≤ x17_3
               ·rw [if_pos c42] at H
                have c42b0 : decide (0 ≤ x17_3) = true := decide_eq_true c42
                clear c42
                by_cases c43 : x17_3 < (t398.length : Int)
                ·rw [if_pos c43] at H
                 have c43b0 : decide (x17_3 < (t398.length : Int)) = true := decide_eq_true c43
                 clear c43
                 by_cases c44 : (rd t398 x17_3) ≥ t395
                 ·rw [if_pos c44] at H
                  have c44b0 : decide (t395 ≤ (rd t398 x17_3)) = true := decide_eq_true c44
                  clear c44
                  by_cases c45 : 0 ≤ x18_39
                  ·rw [if_pos c45] at H
                   have c45b0 : decide (0 ≤ x18_39) = true := decide_eq_true c45
                   clear c45
                   by_cases c46 : x18_39 < (t402.length : Int)
                   ·rw [if_pos c46] at H
                    have c46b0 : decide (x18_39 < (t402.length : Int)) = true := decide_eq_true c46
                    clear c46
                    by_cases c47 : (rd t402 x18_39) = (wrap64 ((rd t398 x17_3) + ((((⟨#[91]⟩ : ByteArray) ++ t394) ++ (⟨#[41]⟩ : ByteArray)).size : Int)))
                    ·rw [if_pos c47] at H
                     have c47b0 : ((rd t402 x18_39) == (wrap64 ((rd t398 x17_3) + ((((⟨#[91]⟩ : ByteArray) ++ t394) ++ (⟨#[41]⟩ : ByteArray)).size : Int)))) = true := beq_iff_eq.mpr c47
                     have c47b7 : ((rd t402 x18_39) == (wrap64 ((rd t398 x17_3) + (1 + (t394.size : Int) + 1)))) = true := by rw [← laws_FnPutAndCut.len_]; exact c47b0
                     have c47b1 : ((rd t402 x18_39) != (wrap64 ((rd t398 x17_3) + ((((⟨#[91]⟩ : ByteArray) ++ t394) ++ (⟨#[41]⟩ : ByteArray)).size : Int)))) = false := bne_eq_false_iff_eq.mpr c47
                     have c47b8 : ((rd t402 x18_39) != (wrap64 ((rd t398 x17_3) + (1 + (t394.size : Int) + 1)))) = false := by rw [← laws_FnPutAndCut.len_]; exact c47b1
                     clear c47
                     have H' := Aside0.mk H
                     clear H
                     obtain ⟨Ao48, co48, eo48⟩ := Kd.R_slice HO_10.out
                     subst eo48
                     have p408 : 0 ≤ (x17_3 : Int) := of_decide_eq_true (by first | (with_reducible assumption) | assumption)
                     have q408 : x17_3 < (t398.length : Int) := of_decide_eq_true (by first | (with_reducible assumption) | assumption)
                     obtain ⟨ad408, e408, hx408_0⟩ := Kd.at_int (Kd.R_reads' HO_10.out).2.2 x17_3 p408 q408
                     cases e408
                     replace p408 := eq_true p408
                     replace q408 := eq_true q408
                     obtain ⟨Ao49, co49, eo49⟩ := Kd.R_slice HO_12.out
                     subst eo49
                     have p409 : 0 ≤ (x18_39 : Int) := of_decide_eq_true (by first | (with_reducible assumption) | assumption)
                     have q409 : x18_39 < (t402.length : Int) := of_decide_eq_true (by first | (with_reducible assumption) | assumption)
                     obtain ⟨ad409, e409, hx409_0⟩ := Kd.at_int (Kd.R_reads' HO_12.out).2.2 x18_39 p409 q409
                     cases e409
                     replace p409 := eq_true p409
                     replace q409 := eq_true q409
                     go_wp2
                     repeat (go_quiet (fail); try go_wp2)
                     go_roundg kj39
                     case measure => have := HJ12.out; have := HJ34.out; have := HK3.out; have := HJ39.out; omega
                     case rel => exact ⟨(wrap64 (x17_3 + 1)), (by first | rfl | (simp; done) | (simp [*]; done)), H', ⟨by have := HJ12.out; have := HJ34.out; have := HK3.out; have := HJ39.out; omega⟩, ⟨by (with_reducible repeat (first | apply Kd.R_alloc | apply Kd.R_drewN | apply Kd.R_drew)); exact HO_10.out⟩, ⟨by (with_reducible repeat (first | apply Kd.R_alloc | apply Kd.R_drewN | apply Kd.R_drew)); exact HO_12.out⟩, ⟨by repeat (first | (with_reducible first | exact HB.out | apply below_alloc | apply pw_below_drewN | apply below_drew1) | exact HB.out)⟩⟩
                    ·rw [if_neg c47] at H
                     have c47b0 : ((rd t402 x18_39) == (wrap64 ((rd t398 x17_3) + ((((⟨#[91]⟩ : ByteArray) ++ t394) ++ (⟨#[41]⟩ : ByteArray)).size : Int)))) = false := beq_eq_false_iff_ne.mpr c47
                     have c47b7 : ((rd t402 x18_39) == (wrap64 ((rd t398 x17_3) + (1 + (t394.size : Int) + 1)))) = false := by rw [← laws_FnPutAndCut.len_]; exact c47b0
                     have c47b1 : ((rd t402 x18_39) != (wrap64 ((rd t398 x17_3) + ((((⟨#[91]⟩ : ByteArray) ++ t394) ++ (⟨#[41]⟩ : ByteArray)).size : Int)))) = true := bne_iff_ne.mpr c47
                     have c47b8 : ((rd t402 x18_39) != (wrap64 ((rd t398 x17_3) + (1 + (t394.size : Int) + 1)))) = true := by rw [← laws_FnPutAndCut.len_]; exact c47b1
                     obtain rfl := Option.some.inj H
                     obtain ⟨Ao50, co50, eo50⟩ := Kd.R_slice HO_10.out
                     subst eo50
                     have p408 : 0 ≤ (x17_3 : Int) := of_decide_eq_true (by first | (with_reducible assumption) | assumption)
                     have q408 : x17_3 < (t398.length : Int) := of_decide_eq_true (by first | (with_reducible assumption) | assumption)
                     obtain ⟨ad408, e408, hx408_0⟩ := Kd.at_int (Kd.R_reads' HO_10.out).2.2 x17_3 p408 q408
                     cases e408
                     replace p408 := eq_true p408
                     replace q408 := eq_true q408
                     obtain ⟨Ao51, co51, eo51⟩ := Kd.R_slice HO_12.out
                     subst eo51
                     have p409 : 0 ≤ (x18_39 : Int) := of_decide_eq_true (by first | (with_reducible assumption) | assumption)
                     have q409 : x18_39 < (t402.length : Int) := of_decide_eq_true (by first | (with_reducible assumption) | assumption)
                     obtain ⟨ad409, e409, hx409_0⟩ := Kd.at_int (Kd.R_reads' HO_12.out).2.2 x18_39 p409 q409
                     cases e409
                     replace p409 := eq_true p409
                     replace q409 := eq_true q409
                     go_wp2
                     repeat (go_quiet (fail); try go_wp2)
                     go_ret
                     exact ⟨by first | rfl | (simp [errW_none, errW_some] <;> rfl) | (simp [*, errW_none, errW_some] <;> rfl), by repeat (first | (with_reducible first | exact HB.out | apply below_alloc | apply pw_below_drewN | apply below_drew1) | exact HB.out)⟩
                   ·rw [if_neg c46] at H
                    exact absurd H (by simp)
                  ·rw [if_neg c45] at H
                   exact absurd H (by simp)
                 ·rw [if_neg c44] at H
                  have c44b0 : decide (t395 ≤ (rd t398 x17_3)) = false := decide_eq_false c44
                  clear c44
                  by_cases c52 : 0 ≤ x18_39
                  ·rw [if_pos c52] at H
                   have c52b0 : decide (0 ≤ x18_39) = true := decide_eq_true c52
                   clear c52
                   by_cases c53 : x18_39 < (t402.length : Int)
                   ·rw [if_pos c53] at H
                    have c53b0 : decide (x18_39 < (t402.length : Int)) = true := decide_eq_true c53
                    clear c53
                    by_cases c54 : (rd t402 x18_39) = (rd t398 x17_3)
                    ·rw [if_pos c54] at H
                     have c54b0 : ((rd t402 x18_39) == (rd t398 x17_3)) = true := beq_iff_eq.mpr c54
                     have c54b1 : ((rd t402 x18_39) != (rd t398 x17_3)) = false := bne_eq_false_iff_eq.mpr c54
                     clear c54
                     have H' := Aside0.mk H
                     clear H
                     obtain ⟨Ao55, co55, eo55⟩ := Kd.R_slice HO_10.out
                     subst eo55
                     have p408 : 0 ≤ (x17_3 : Int) := of_decide_eq_true (by first | (with_reducible assumption) | assumption)
                     have q408 : x17_3 < (t398.length : Int) := of_decide_eq_true (by first | (with_reducible assumption) | assumption)
                     obtain ⟨ad408, e408, hx408_0⟩ := Kd.at_int (Kd.R_reads' HO_10.out).2.2 x17_3 p408 q408
                     cases e408
                     replace p408 := eq_true p408
                     replace q408 := eq_true q408
                     obtain ⟨Ao56, co56, eo56⟩ := Kd.R_slice HO_12.out
                     subst eo56
                     have p410 : 0 ≤ (x18_39 : Int) := of_decide_eq_true (by first | (with_reducible assumption) | assumption)
                     have q410 : x18_39 < (t402.length : Int) := of_decide_eq_true (by first | (with_reducible assumption) | assumption)
                     obtain ⟨ad410, e410, hx410_0⟩ := Kd.at_int (Kd.R_reads' HO_12.out).2.2 x18_39 p410 q410
                     cases e410
                     replace p410 := eq_true p410
                     replace q410 := eq_true q410
                     go_wp2
                     repeat (go_quiet (fail); try go_wp2)
                     go_roundg kj39
                     case measure => have := HJ12.out; have := HJ34.out; have := HK3.out; have := HJ39.out; omega
                     case rel => exact ⟨(wrap64 (x17_3 + 1)), (by first | rfl | (simp; done) | (simp [*]; done)), H', ⟨by have := HJ12.out; have := HJ34.out; have := HK3.out; have := HJ39.out; omega⟩, ⟨by (with_reducible repeat (first | apply Kd.R_alloc | apply Kd.R_drewN | apply Kd.R_drew)); exact HO_10.out⟩, ⟨by (with_reducible repeat (first | apply Kd.R_alloc | apply Kd.R_drewN | apply Kd.R_drew)); exact HO_12.out⟩, ⟨by repeat (first | (with_reducible first | exact HB.out | apply below_alloc | apply pw_below_drewN | apply below_drew1) | exact HB.out)⟩⟩
                    ·rw [if_neg c54] at H
                     have c54b0 : ((rd t402 x18_39) == (rd t398 x17_3)) = false := beq_eq_false_iff_ne.mpr c54
                     have c54b1 : ((rd t402 x18_39) != (rd t398 x17_3)) = true := bne_iff_ne.mpr c54
                     obtain rfl := Option.some.inj H
                     obtain ⟨Ao57, co57, eo57⟩ := Kd.R_slice HO_10.out
                     subst eo57
                     have p408 : 0 ≤ (x17_3 : Int) := of_decide_eq_true (by first | (with_reducible assumption) | assumption)
                     have q408 : x17_3 < (t398.length : Int) := of_decide_eq_true (by first | (with_reducible assumption) | assumption)
                     obtain ⟨ad408, e408, hx408_0⟩ := Kd.at_int (Kd.R_reads' HO_10.out).2.2 x17_3 p408 q408
                     cases e408
                     replace p408 := eq_true p408
                     replace q408 := eq_true q408
                     obtain ⟨Ao58, co58, eo58⟩ := Kd.R_slice HO_12.out
                     subst eo58
                     have p410 : 0 ≤ (x18_39 : Int) := of_decide_eq_true (by first | (with_reducible assumption) | assumption)
                     have q410 : x18_39 < (t402.length : Int) := of_decide_eq_true (by first | (with_reducible assumption) | assumption)
                     obtain ⟨ad410, e410, hx410_0⟩ := Kd.at_int (Kd.R_reads' HO_12.out).2.2 x18_39 p410 q410
                     cases e410
                     replace p410 := eq_true p410
                     replace q410 := eq_true q410
                     go_wp2
                     repeat (go_quiet (fail); try go_wp2)
                     go_ret
                     exact ⟨by first | rfl | (simp [errW_none, errW_some] <;> rfl) | (simp [*, errW_none, errW_some] <;> rfl), by repeat (first | (with_reducible first | exact HB.out | apply below_alloc | apply pw_below_drewN | apply below_drew1) | exact HB.out)⟩
                   ·rw [if_neg c53] at H
                    exact absurd H (by simp)
                  ·rw [if_neg c52] at H
                   exact absurd H (by simp)
                ·rw [if_neg c43] at H
                 exact absurd H (by simp)
               ·rw [if_neg c42] at H
                exact absurd H (by simp)
            ·rw [if_neg c39] at H
             have c39b0 : decide (x17_3 < (t393.size : Int)) = false := decide_eq_false c39
             clear c39
             replace H := Option.bind_eq_some_iff.mp H
             obtain ⟨⟨t411, t412⟩, A590, H⟩ := H
             replace H : ((impl_IsMatched.f k3 t411).bind fun bt413 => ((impl_PendingOf.f k3 t393).bind fun bt415 => ((impl_JoinWords.f k3 t393 (((⟨#[91]⟩ : ByteArray) ++ t394) ++ (⟨#[41]⟩ : ByteArray))).bind fun bt418 => ((impl_PutAt.f k3 t393 t395 (⟨#[40]⟩ : ByteArray)).bind fun bt420 => (if t412 = 0 then (if bt413.2 = 0 then (if bt413.1 = true then (if bt415.2.2 = 0 then (if (t411.size : Int) = (wrap64 ((wrap64 ((t393.size : Int) + bt415.1)) + bt415.2.1)) then (if 0 ≤ bt415.1 then (if bt415.1 ≤ (wrap64 (bt415.1 + (t393.size : Int))) then (if (wrap64 (bt415.1 + (t393.size : Int))) ≤ (t411.size : Int) then (if (t411.extract (bt415.1 : Int).toNat ((wrap64 (bt415.1 + (t393.size : Int))) : Int).toNat).toList = t393.toList then (if bt418.2 = 0 then (if t393.size + (((⟨#[91]⟩ : ByteArray) ++ t394) ++ (⟨#[41]⟩ : ByteArray)).size ≤ 9223372036854775807 then (if bt418.1.toList = (t393 ++ (((⟨#[91]⟩ : ByteArray) ++ t394) ++ (⟨#[41]⟩ : ByteArray))).toList then (some (bt420.2 == 4)) else (some false)) else (none)) else (some false)) else (some false)) else (none)) else (none)) else (none)) else (some false)) else (some false)) else (some false)) else (some false)) else (some false)))))) = some r := H
             have A59 := Aside0.mk A590
             clear A590
             replace H := Option.bind_eq_some_iff.mp H
             obtain ⟨⟨t413, t414⟩, A600, H⟩ := H
             replace H : ((impl_PendingOf.f k3 t393).bind fun bt415 => ((impl_JoinWords.f k3 t393 (((⟨#[91]⟩ : ByteArray) ++ t394) ++ (⟨#[41]⟩ : ByteArray))).bind fun bt418 => ((impl_PutAt.f k3 t393 t395 (⟨#[40]⟩ : ByteArray)).bind fun bt420 => (if t412 = 0 then (if t414 = 0 then (if t413 = true then (if bt415.2.2 = 0 then (if (t411.size : Int) = (wrap64 ((wrap64 ((t393.size : Int) + bt415.1)) + bt415.2.1)) then (if 0 ≤ bt415.1 then (if bt415.1 ≤ (wrap64 (bt415.1 + (t393.size : Int))) then (if (wrap64 (bt415.1 + (t393.size : Int))) ≤ (t411.size : Int) then (if (t411.extract (bt415.1 : Int).toNat ((wrap64 (bt415.1 + (t393.size : Int))) : Int).toNat).toList = t393.toList then (if bt418.2 = 0 then (if t393.size + (((⟨#[91]⟩ : ByteArray) ++ t394) ++ (⟨#[41]⟩ : ByteArray)).size ≤ 9223372036854775807 then (if bt418.1.toList = (t393 ++ (((⟨#[91]⟩ : ByteArray) ++ t394) ++ (⟨#[41]⟩ : ByteArray))).toList then (some (bt420.2 == 4)) else (some false)) else (none)) else (some false)) else (some false)) else (none)) else (none)) else (none)) else (some false)) else (some false)) else (some false)) else (some false)) else (some false))))) = some r := H
             have A60 := Aside0.mk A600
             clear A600
             replace H := Option.bind_eq_some_iff.mp H
             obtain ⟨⟨t415, t416, t417⟩, A610, H⟩ := H
             replace H : ((impl_JoinWords.f k3 t393 (((⟨#[91]⟩ : ByteArray) ++ t394) ++ (⟨#[41]⟩ : ByteArray))).bind fun bt418 => ((impl_PutAt.f k3 t393 t395 (⟨#[40]⟩ : ByteArray)).bind fun bt420 => (if t412 = 0 then (if t414 = 0 then (if t413 = true then (if t417 = 0 then (if (t411.size : Int) = (wrap64 ((wrap64 ((t393.size : Int) + t415)) + t416)) then (if 0 ≤ t415 then (if t415 ≤ (wrap64 (t415 + (t393.size : Int))) then (if (wrap64 (t415 + (t393.size : Int))) ≤ (t411.size : Int) then (if (t411.extract (t415 : Int).toNat ((wrap64 (t415 + (t393.size : Int))) : Int).toNat).toList = t393.toList then (if bt418.2 = 0 then (if t393.size + (((⟨#[91]⟩ : ByteArray) ++ t394) ++ (⟨#[41]⟩ : ByteArray)).size ≤ 9223372036854775807 then (if bt418.1.toList = (t393 ++ (((⟨#[91]⟩ : ByteArray) ++ t394) ++ (⟨#[41]⟩ : ByteArray))).toList then (some (bt420.2 == 4)) else (some false)) else (none)) else (some false)) else (some false)) else (none)) else (none)) else (none)) else (some false)) else (some false)) else (some false)) else (some false)) else (some false)))) = some r := H
             have A61 := Aside0.mk A610
             clear A610
             replace H := Option.bind_eq_some_iff.mp H
             obtain ⟨⟨t418, t419⟩, A620, H⟩ := H
             replace H : ((impl_PutAt.f k3 t393 t395 (⟨#[40]⟩ : ByteArray)).bind fun bt420 => (if t412 = 0 then (if t414 = 0 then (if t413 = true then (if t417 = 0 then (if (t411.size : Int) = (wrap64 ((wrap64 ((t393.size : Int) + t415)) + t416)) then (if 0 ≤ t415 then (if t415 ≤ (wrap64 (t415 + (t393.size : Int))) then (if (wrap64 (t415 + (t393.size : Int))) ≤ (t411.size : Int) then (if (t411.extract (t415 : Int).toNat ((wrap64 (t415 + (t393.size : Int))) : Int).toNat).toList = t393.toList then (if t419 = 0 then (if t393.size + (((⟨#[91]⟩ : ByteArray) ++ t394) ++ (⟨#[41]⟩ : ByteArray)).size ≤ 9223372036854775807 then (if t418.toList = (t393 ++ (((⟨#[91]⟩ : ByteArray) ++ t394) ++ (⟨#[41]⟩ : ByteArray))).toList then (some (bt420.2 == 4)) else (some false)) else (none)) else (some false)) else (some false)) else (none)) else (none)) else (none)) else (some false)) else (some false)) else (some false)) else (some false)) else (some false))) = some r := H
             have A62 := Aside0.mk A620
             clear A620
             replace H := Option.bind_eq_some_iff.mp H
             obtain ⟨⟨t420, t421⟩, A630, H⟩ := H
             replace H : (if t412 = 0 then (if t414 = 0 then (if t413 = true then (if t417 = 0 then (if (t411.size : Int) = (wrap64 ((wrap64 ((t393.size : Int) + t415)) + t416)) then (if 0 ≤ t415 then (if t415 ≤ (wrap64 (t415 + (t393.size : Int))) then (if (wrap64 (t415 + (t393.size : Int))) ≤ (t411.size : Int) then (if (t411.extract (t415 : Int).toNat ((wrap64 (t415 + (t393.size : Int))) : Int).toNat).toList = t393.toList then (if t419 = 0 then (if t393.size + (((⟨#[91]⟩ : ByteArray) ++ t394) ++ (⟨#[41]⟩ : ByteArray)).size ≤ 9223372036854775807 then (if t418.toList = (t393 ++ (((⟨#[91]⟩ : ByteArray) ++ t394) ++ (⟨#[41]⟩ : ByteArray))).toList then (some (t421 == 4)) else (some false)) else (none)) else (some false)) else (some false)) else (none)) else (none)) else (none)) else (some false)) else (some false)) else (some false)) else (some false)) else (some false)) = some r := H
             have A63 := Aside0.mk A630
             clear A630
             by_cases c64 : t412 = 0
             ·rw [if_pos c64] at H
              have c64b0 : (t412 == 0) = true := beq_iff_eq.mpr c64
              have c64b1 : (t412 != 0) = false := bne_eq_false_iff_eq.mpr c64
              clear c64
              by_cases c65 : t414 = 0
              ·rw [if_pos c65] at H
               have c65b0 : (t414 == 0) = true := beq_iff_eq.mpr c65
               have c65b1 : (t414 != 0) = false := bne_eq_false_iff_eq.mpr c65
               clear c65
               by_cases c66 : t413 = true
               ·subst c66
                have H1 : (if t417 = 0 then (if (t411.size : Int) = (wrap64 ((wrap64 ((t393.size : Int) + t415)) + t416)) then (if 0 ≤ t415 then (if t415 ≤ (wrap64 (t415 + (t393.size : Int))) then (if (wrap64 (t415 + (t393.size : Int))) ≤ (t411.size : Int) then (if (t411.extract (t415 : Int).toNat ((wrap64 (t415 + (t393.size : Int))) : Int).toNat).toList = t393.toList then (if t419 = 0 then (if t393.size + (((⟨#[91]⟩ : ByteArray) ++ t394) ++ (⟨#[41]⟩ : ByteArray)).size ≤ 9223372036854775807 then (if t418.toList = (t393 ++ (((⟨#[91]⟩ : ByteArray) ++ t394) ++ (⟨#[41]⟩ : ByteArray))).toList then (some (t421 == 4)) else (some false)) else (none)) else (some false)) else (some false)) else (none)) else (none)) else (none)) else (some false)) else (some false)) = some r := by rw [if_pos rfl] at H; exact H
                clear H
                have H := H1
                clear H1
                by_cases c67 : t417 = 0
                ·rw [if_pos c67] at H
                 have c67b0 : (t417 == 0) = true := beq_iff_eq.mpr c67
                 have c67b1 : (t417 != 0) = false := bne_eq_false_iff_eq.mpr c67
                 clear c67
                 by_cases c68 : (t411.size : Int) = (wrap64 ((wrap64 ((t393.size : Int) + t415)) + t416))
                 ·rw [if_pos c68] at H
                  have c68b0 : ((t411.size : Int) == (wrap64 ((wrap64 ((t393.size : Int) + t415)) + t416))) = true := beq_iff_eq.mpr c68
                  have c68b1 : ((t411.size : Int) != (wrap64 ((wrap64 ((t393.size : Int) + t415)) + t416))) = false := bne_eq_false_iff_eq.mpr c68
                  clear c68
                  by_cases c69 : 0 ≤ t415
                  ·rw [if_pos c69] at H
                   have c69b0 := eq_true c69
                   have c69b1 : decide (0 ≤ t415) = true := decide_eq_true c69
                   clear c69
                   by_cases c70 : t415 ≤ (wrap64 (t415 + (t393.size : Int)))
                   ·rw [if_pos c70] at H
                    have c70b0 := eq_true c70
                    have c70b1 : decide (t415 ≤ (wrap64 (t415 + (t393.size : Int)))) = true := decide_eq_true c70
                    by_cases c71 : (wrap64 (t415 + (t393.size : Int))) ≤ (t411.size : Int)
                    ·rw [if_pos c71] at H
                     have c71b0 := eq_true c71
                     have c71b1 : decide ((wrap64 (t415 + (t393.size : Int))) ≤ (t411.size : Int)) = true := decide_eq_true c71
                     by_cases c72 : (t411.extract (t415 : Int).toNat ((wrap64 (t415 + (t393.size : Int))) : Int).toNat).toList = t393.toList
                     ·rw [if_pos c72] at H
                      have c72b0 : ((t411.extract (t415 : Int).toNat ((wrap64 (t415 + (t393.size : Int))) : Int).toNat).toList == t393.toList) = true := beq_iff_eq.mpr c72
                      have c72b1 : ((t411.extract (t415 : Int).toNat ((wrap64 (t415 + (t393.size : Int))) : Int).toNat).toList != t393.toList) = false := bne_eq_false_iff_eq.mpr c72
                      clear c72
                      by_cases c73 : t419 = 0
                      ·rw [if_pos c73] at H
                       have c73b0 : (t419 == 0) = true := beq_iff_eq.mpr c73
                       have c73b1 : (t419 != 0) = false := bne_eq_false_iff_eq.mpr c73
                       clear c73
                       by_cases c74 : t393.size + (((⟨#[91]⟩ : ByteArray) ++ t394) ++ (⟨#[41]⟩ : ByteArray)).size ≤ 9223372036854775807
                       ·rw [if_pos c74] at H
                        have c74b0 := eq_true c74
                        have c74b1 : decide (t393.size + (((⟨#[91]⟩ : ByteArray) ++ t394) ++ (⟨#[41]⟩ : ByteArray)).size ≤ 9223372036854775807) = true := decide_eq_true c74
                        try have c74b2 : (9223372036854775807 < t393.size + (((⟨#[91]⟩ : ByteArray) ++ t394) ++ (⟨#[41]⟩ : ByteArray)).size) = False := eq_false (Nat.not_lt.2 c74)
                        (try have c74b3 : (9223372036854775807 < t393.size + (1 + t394.size + 1)) = False := eq_false (by have h_ := c74; simp only [ByteArray.size_append] at h_; exact Nat.not_lt.2 h_))
                        (try have c74b4 : (t393.size + (1 + t394.size + 1) ≤ 9223372036854775807) = True := eq_true (by have h_ := c74; simp only [ByteArray.size_append] at h_; exact h_))
                        by_cases c75 : t418.toList = (t393 ++ (((⟨#[91]⟩ : ByteArray) ++ t394) ++ (⟨#[41]⟩ : ByteArray))).toList
                        ·rw [if_pos c75] at H
                         have c75b0 : (t418.toList == (t393 ++ (((⟨#[91]⟩ : ByteArray) ++ t394) ++ (⟨#[41]⟩ : ByteArray))).toList) = true := beq_iff_eq.mpr c75
                         have c75b1 : (t418.toList != (t393 ++ (((⟨#[91]⟩ : ByteArray) ++ t394) ++ (⟨#[41]⟩ : ByteArray))).toList) = false := bne_eq_false_iff_eq.mpr c75
                         clear c75
                         obtain rfl := Option.some.inj H
                         go_wp2_with (first | (go_at_call 16; (with_reducible refine (impl_CompleteWord.calls k3 t393 t411 t412 _ A59.out).mono ?_); rintro e w76 ⟨rfl, hb⟩; have n0_ := Aside0.mk (Kd.R_below (by (with_reducible repeat (first | apply Kd.R_alloc | apply Kd.R_drewN | apply Kd.R_drew)); exact HO_10.out) hb); have n1_ := Aside0.mk (Kd.R_below (by (with_reducible repeat (first | apply Kd.R_alloc | apply Kd.R_drewN | apply Kd.R_drew)); exact HO_12.out) hb); have n2_ := Aside0.mk (below_step (by repeat (first | (with_reducible first | exact HB.out | apply below_alloc | apply pw_below_drewN | apply below_drew1) | exact HB.out)) hb); clear HO_10; clear HO_12; clear HB; have HO_10 := n0_; have HO_12 := n1_; have HB := n2_; clear n0_ n1_ n2_; (try clear hb); (try clear hb2); (try clear hk); (try clear hi)) | (go_at_call 17; (with_reducible refine (impl_IsMatched.calls k3 t411 true t414 _ A60.out).mono ?_); rintro e w77 ⟨rfl, hb⟩; have n0_ := Aside0.mk (Kd.R_below (by (with_reducible repeat (first | apply Kd.R_alloc | apply Kd.R_drewN | apply Kd.R_drew)); exact HO_10.out) hb); have n1_ := Aside0.mk (Kd.R_below (by (with_reducible repeat (first | apply Kd.R_alloc | apply Kd.R_drewN | apply Kd.R_drew)); exact HO_12.out) hb); have n2_ := Aside0.mk (below_step (by repeat (first | (with_reducible first | exact HB.out | apply below_alloc | apply pw_below_drewN | apply below_drew1) | exact HB.out)) hb); clear HO_10; clear HO_12; clear HB; have HO_10 := n0_; have HO_12 := n1_; have HB := n2_; clear n0_ n1_ n2_; (try clear hb); (try clear hb2); (try clear hk); (try clear hi)) | (go_at_call 18; (with_reducible refine (impl_PendingOf.calls k3 t393 t415 t416 t417 _ A61.out).mono ?_); rintro e w78 ⟨rfl, hb⟩; have n0_ := Aside0.mk (Kd.R_below (by (with_reducible repeat (first | apply Kd.R_alloc | apply Kd.R_drewN | apply Kd.R_drew)); exact HO_10.out) hb); have n1_ := Aside0.mk (Kd.R_below (by (with_reducible repeat (first | apply Kd.R_alloc | apply Kd.R_drewN | apply Kd.R_drew)); exact HO_12.out) hb); have n2_ := Aside0.mk (below_step (by repeat (first | (with_reducible first | exact HB.out | apply below_alloc | apply pw_below_drewN | apply below_drew1) | exact HB.out)) hb); clear HO_10; clear HO_12; clear HB; have HO_10 := n0_; have HO_12 := n1_; have HB := n2_; clear n0_ n1_ n2_; (try clear hb); (try clear hb2); (try clear hk); (try clear hi)) | (go_at_call 19; (with_reducible refine (impl_JoinWords.calls k3 t393 (((⟨#[91]⟩ : ByteArray) ++ t394) ++ (⟨#[41]⟩ : ByteArray)) t418 t419 _ A62.out).mono ?_); rintro e w' ⟨rfl, ⟨nd, rfl⟩⟩; (try first | exact ⟨rfl, _, World.drewN_drewN _ _ _⟩ | exact ⟨rfl, _, Eq.trans (World.drewN_drewN _ _ _) (congrArg (World.drewN _) (Nat.add_assoc _ _ _))⟩)) | (go_at_call 13; (with_reducible refine (impl_PutAt.calls k3 t393 t395 (⟨#[40]⟩ : ByteArray) t420 t421 _ A63.out).mono ?_); rintro e w79 ⟨rfl, hb⟩; have n0_ := Aside0.mk (Kd.R_below (by (with_reducible repeat (first | apply Kd.R_alloc | apply Kd.R_drewN | apply Kd.R_drew)); exact HO_10.out) hb); have n1_ := Aside0.mk (Kd.R_below (by (with_reducible repeat (first | apply Kd.R_alloc | apply Kd.R_drewN | apply Kd.R_drew)); exact HO_12.out) hb); have n2_ := Aside0.mk (below_step (by repeat (first | (with_reducible first | exact HB.out | apply below_alloc | apply pw_below_drewN | apply below_drew1) | exact HB.out)) hb); clear HO_10; clear HO_12; clear HB; have HO_10 := n0_; have HO_12 := n1_; have HB := n2_; clear n0_ n1_ n2_; (try clear hb); (try clear hb2); (try clear hk); (try clear hi)))
                         repeat (go_quiet (first | (go_at_call 16; (with_reducible refine (impl_CompleteWord.calls k3 t393 t411 t412 _ A59.out).mono ?_); rintro e w76 ⟨rfl, hb⟩; have n0_ := Aside0.mk (Kd.R_below (by (with_reducible repeat (first | apply Kd.R_alloc | apply Kd.R_drewN | apply Kd.R_drew)); exact HO_10.out) hb); have n1_ := Aside0.mk (Kd.R_below (by (with_reducible repeat (first | apply Kd.R_alloc | apply Kd.R_drewN | apply Kd.R_drew)); exact HO_12.out) hb); have n2_ := Aside0.mk (below_step (by repeat (first | (with_reducible first | exact HB.out | apply below_alloc | apply pw_below_drewN | apply below_drew1) | exact HB.out)) hb); clear HO_10; clear HO_12; clear HB; have HO_10 := n0_; have HO_12 := n1_; have HB := n2_; clear n0_ n1_ n2_; (try clear hb); (try clear hb2); (try clear hk); (try clear hi)) | (go_at_call 17; (with_reducible refine (impl_IsMatched.calls k3 t411 true t414 _ A60.out).mono ?_); rintro e w77 ⟨rfl, hb⟩; have n0_ := Aside0.mk (Kd.R_below (by (with_reducible repeat (first | apply Kd.R_alloc | apply Kd.R_drewN | apply Kd.R_drew)); exact HO_10.out) hb); have n1_ := Aside0.mk (Kd.R_below (by (with_reducible repeat (first | apply Kd.R_alloc | apply Kd.R_drewN | apply Kd.R_drew)); exact HO_12.out) hb); have n2_ := Aside0.mk (below_step (by repeat (first | (with_reducible first | exact HB.out | apply below_alloc | apply pw_below_drewN | apply below_drew1) | exact HB.out)) hb); clear HO_10; clear HO_12; clear HB; have HO_10 := n0_; have HO_12 := n1_; have HB := n2_; clear n0_ n1_ n2_; (try clear hb); (try clear hb2); (try clear hk); (try clear hi)) | (go_at_call 18; (with_reducible refine (impl_PendingOf.calls k3 t393 t415 t416 t417 _ A61.out).mono ?_); rintro e w78 ⟨rfl, hb⟩; have n0_ := Aside0.mk (Kd.R_below (by (with_reducible repeat (first | apply Kd.R_alloc | apply Kd.R_drewN | apply Kd.R_drew)); exact HO_10.out) hb); have n1_ := Aside0.mk (Kd.R_below (by (with_reducible repeat (first | apply Kd.R_alloc | apply Kd.R_drewN | apply Kd.R_drew)); exact HO_12.out) hb); have n2_ := Aside0.mk (below_step (by repeat (first | (with_reducible first | exact HB.out | apply below_alloc | apply pw_below_drewN | apply below_drew1) | exact HB.out)) hb); clear HO_10; clear HO_12; clear HB; have HO_10 := n0_; have HO_12 := n1_; have HB := n2_; clear n0_ n1_ n2_; (try clear hb); (try clear hb2); (try clear hk); (try clear hi)) | (go_at_call 19; (with_reducible refine (impl_JoinWords.calls k3 t393 (((⟨#[91]⟩ : ByteArray) ++ t394) ++ (⟨#[41]⟩ : ByteArray)) t418 t419 _ A62.out).mono ?_); rintro e w' ⟨rfl, ⟨nd, rfl⟩⟩; (try first | exact ⟨rfl, _, World.drewN_drewN _ _ _⟩ | exact ⟨rfl, _, Eq.trans (World.drewN_drewN _ _ _) (congrArg (World.drewN _) (Nat.add_assoc _ _ _))⟩)) | (go_at_call 13; (with_reducible refine (impl_PutAt.calls k3 t393 t395 (⟨#[40]⟩ : ByteArray) t420 t421 _ A63.out).mono ?_); rintro e w79 ⟨rfl, hb⟩; have n0_ := Aside0.mk (Kd.R_below (by (with_reducible repeat (first | apply Kd.R_alloc | apply Kd.R_drewN | apply Kd.R_drew)); exact HO_10.out) hb); have n1_ := Aside0.mk (Kd.R_below (by (with_reducible repeat (first | apply Kd.R_alloc | apply Kd.R_drewN | apply Kd.R_drew)); exact HO_12.out) hb); have n2_ := Aside0.mk (below_step (by repeat (first | (with_reducible first | exact HB.out | apply below_alloc | apply pw_below_drewN | apply below_drew1) | exact HB.out)) hb); clear HO_10; clear HO_12; clear HB; have HO_10 := n0_; have HO_12 := n1_; have HB := n2_; clear n0_ n1_ n2_; (try clear hb); (try clear hb2); (try clear hk); (try clear hi))); try go_wp2_with (first | (go_at_call 16; (with_reducible refine (impl_CompleteWord.calls k3 t393 t411 t412 _ A59.out).mono ?_); rintro e w76 ⟨rfl, hb⟩; have n0_ := Aside0.mk (Kd.R_below (by (with_reducible repeat (first | apply Kd.R_alloc | apply Kd.R_drewN | apply Kd.R_drew)); exact HO_10.out) hb); have n1_ := Aside0.mk (Kd.R_below (by (with_reducible repeat (first | apply Kd.R_alloc | apply Kd.R_drewN | apply Kd.R_drew)); exact HO_12.out) hb); have n2_ := Aside0.mk (below_step (by repeat (first | (with_reducible first | exact HB.out | apply below_alloc | apply pw_below_drewN | apply below_drew1) | exact HB.out)) hb); clear HO_10; clear HO_12; clear HB; have HO_10 := n0_; have HO_12 := n1_; have HB := n2_; clear n0_ n1_ n2_; (try clear hb); (try clear hb2); (try clear hk); (try clear hi)) | (go_at_call 17; (with_reducible refine (impl_IsMatched.calls k3 t411 true t414 _ A60.out).mono ?_); rintro e w77 ⟨rfl, hb⟩; have n0_ := Aside0.mk (Kd.R_below (by (with_reducible repeat (first | apply Kd.R_alloc | apply Kd.R_drewN | apply Kd.R_drew)); exact HO_10.out) hb); have n1_ := Aside0.mk (Kd.R_below (by (with_reducible repeat (first | apply Kd.R_alloc | apply Kd.R_drewN | apply Kd.R_drew)); exact HO_12.out) hb); have n2_ := Aside0.mk (below_step (by repeat (first | (with_reducible first | exact HB.out | apply below_alloc | apply pw_below_drewN | apply below_drew1) | exact HB.out)) hb); clear HO_10; clear HO_12; clear HB; have HO_10 := n0_; have HO_12 := n1_; have HB := n2_; clear n0_ n1_ n2_; (try clear hb); (try clear hb2); (try clear hk); (try clear hi)) | (go_at_call 18; (with_reducible refine (impl_PendingOf.calls k3 t393 t415 t416 t417 _ A61.out).mono ?_); rintro e w78 ⟨rfl, hb⟩; have n0_ := Aside0.mk (Kd.R_below (by (with_reducible repeat (first | apply Kd.R_alloc | apply Kd.R_drewN | apply Kd.R_drew)); exact HO_10.out) hb); have n1_ := Aside0.mk (Kd.R_below (by (with_reducible repeat (first | apply Kd.R_alloc | apply Kd.R_drewN | apply Kd.R_drew)); exact HO_12.out) hb); have n2_ := Aside0.mk (below_step (by repeat (first | (with_reducible first | exact HB.out | apply below_alloc | apply pw_below_drewN | apply below_drew1) | exact HB.out)) hb); clear HO_10; clear HO_12; clear HB; have HO_10 := n0_; have HO_12 := n1_; have HB := n2_; clear n0_ n1_ n2_; (try clear hb); (try clear hb2); (try clear hk); (try clear hi)) | (go_at_call 19; (with_reducible refine (impl_JoinWords.calls k3 t393 (((⟨#[91]⟩ : ByteArray) ++ t394) ++ (⟨#[41]⟩ : ByteArray)) t418 t419 _ A62.out).mono ?_); rintro e w' ⟨rfl, ⟨nd, rfl⟩⟩; (try first | exact ⟨rfl, _, World.drewN_drewN _ _ _⟩ | exact ⟨rfl, _, Eq.trans (World.drewN_drewN _ _ _) (congrArg (World.drewN _) (Nat.add_assoc _ _ _))⟩)) | (go_at_call 13; (with_reducible refine (impl_PutAt.calls k3 t393 t395 (⟨#[40]⟩ : ByteArray) t420 t421 _ A63.out).mono ?_); rintro e w79 ⟨rfl, hb⟩; have n0_ := Aside0.mk (Kd.R_below (by (with_reducible repeat (first | apply Kd.R_alloc | apply Kd.R_drewN | apply Kd.R_drew)); exact HO_10.out) hb); have n1_ := Aside0.mk (Kd.R_below (by (with_reducible repeat (first | apply Kd.R_alloc | apply Kd.R_drewN | apply Kd.R_drew)); exact HO_12.out) hb); have n2_ := Aside0.mk (below_step (by repeat (first | (with_reducible first | exact HB.out | apply below_alloc | apply pw_below_drewN | apply below_drew1) | exact HB.out)) hb); clear HO_10; clear HO_12; clear HB; have HO_10 := n0_; have HO_12 := n1_; have HB := n2_; clear n0_ n1_ n2_; (try clear hb); (try clear hb2); (try clear hk); (try clear hi))))
                         go_ret
                         exact ⟨by first | rfl | (simp [errW_none, errW_some] <;> rfl) | (simp [*, errW_none, errW_some] <;> rfl), by repeat (first | (with_reducible first | exact HB.out | apply below_alloc | apply pw_below_drewN | apply below_drew1) | exact HB.out)⟩
                        ·rw [if_neg c75] at H
                         have c75b0 : (t418.toList == (t393 ++ (((⟨#[91]⟩ : ByteArray) ++ t394) ++ (⟨#[41]⟩ : ByteArray))).toList) = false := beq_eq_false_iff_ne.mpr c75
                         have c75b1 : (t418.toList != (t393 ++ (((⟨#[91]⟩ : ByteArray) ++ t394) ++ (⟨#[41]⟩ : ByteArray))).toList) = true := bne_iff_ne.mpr c75
                         obtain rfl := Option.some.inj H
                         go_wp2_with (first | (go_at_call 16; (with_reducible refine (impl_CompleteWord.calls k3 t393 t411 t412 _ A59.out).mono ?_); rintro e w80 ⟨rfl, hb⟩; have n0_ := Aside0.mk (Kd.R_below (by (with_reducible repeat (first | apply Kd.R_alloc | apply Kd.R_drewN | apply Kd.R_drew)); exact HO_10.out) hb); have n1_ := Aside0.mk (Kd.R_below (by (with_reducible repeat (first | apply Kd.R_alloc | apply Kd.R_drewN | apply Kd.R_drew)); exact HO_12.out) hb); have n2_ := Aside0.mk (below_step (by repeat (first | (with_reducible first | exact HB.out | apply below_alloc | apply pw_below_drewN | apply below_drew1) | exact HB.out)) hb); clear HO_10; clear HO_12; clear HB; have HO_10 := n0_; have HO_12 := n1_; have HB := n2_; clear n0_ n1_ n2_; (try clear hb); (try clear hb2); (try clear hk); (try clear hi)) | (go_at_call 17; (with_reducible refine (impl_IsMatched.calls k3 t411 true t414 _ A60.out).mono ?_); rintro e w81 ⟨rfl, hb⟩; have n0_ := Aside0.mk (Kd.R_below (by (with_reducible repeat (first | apply Kd.R_alloc | apply Kd.R_drewN | apply Kd.R_drew)); exact HO_10.out) hb); have n1_ := Aside0.mk (Kd.R_below (by (with_reducible repeat (first | apply Kd.R_alloc | apply Kd.R_drewN | apply Kd.R_drew)); exact HO_12.out) hb); have n2_ := Aside0.mk (below_step (by repeat (first | (with_reducible first | exact HB.out | apply below_alloc | apply pw_below_drewN | apply below_drew1) | exact HB.out)) hb); clear HO_10; clear HO_12; clear HB; have HO_10 := n0_; have HO_12 := n1_; have HB := n2_; clear n0_ n1_ n2_; (try clear hb); (try clear hb2); (try clear hk); (try clear hi)) | (go_at_call 18; (with_reducible refine (impl_PendingOf.calls k3 t393 t415 t416 t417 _ A61.out).mono ?_); rintro e w82 ⟨rfl, hb⟩; have n0_ := Aside0.mk (Kd.R_below (by (with_reducible repeat (first | apply Kd.R_alloc | apply Kd.R_drewN | apply Kd.R_drew)); exact HO_10.out) hb); have n1_ := Aside0.mk (Kd.R_below (by (with_reducible repeat (first | apply Kd.R_alloc | apply Kd.R_drewN | apply Kd.R_drew)); exact HO_12.out) hb); have n2_ := Aside0.mk (below_step (by repeat (first | (with_reducible first | exact HB.out | apply below_alloc | apply pw_below_drewN | apply below_drew1) | exact HB.out)) hb); clear HO_10; clear HO_12; clear HB; have HO_10 := n0_; have HO_12 := n1_; have HB := n2_; clear n0_ n1_ n2_; (try clear hb); (try clear hb2); (try clear hk); (try clear hi)) | (go_at_call 19; (with_reducible refine (impl_JoinWords.calls k3 t393 (((⟨#[91]⟩ : ByteArray) ++ t394) ++ (⟨#[41]⟩ : ByteArray)) t418 t419 _ A62.out).mono ?_); rintro e w' ⟨rfl, ⟨nd, rfl⟩⟩; (try first | exact ⟨rfl, _, World.drewN_drewN _ _ _⟩ | exact ⟨rfl, _, Eq.trans (World.drewN_drewN _ _ _) (congrArg (World.drewN _) (Nat.add_assoc _ _ _))⟩)) | (go_at_call 13; (with_reducible refine (impl_PutAt.calls k3 t393 t395 (⟨#[40]⟩ : ByteArray) t420 t421 _ A63.out).mono ?_); rintro e w83 ⟨rfl, hb⟩; have n0_ := Aside0.mk (Kd.R_below (by (with_reducible repeat (first | apply Kd.R_alloc | apply Kd.R_drewN | apply Kd.R_drew)); exact HO_10.out) hb); have n1_ := Aside0.mk (Kd.R_below (by (with_reducible repeat (first | apply Kd.R_alloc | apply Kd.R_drewN | apply Kd.R_drew)); exact HO_12.out) hb); have n2_ := Aside0.mk (below_step (by repeat (first | (with_reducible first | exact HB.out | apply below_alloc | apply pw_below_drewN | apply below_drew1) | exact HB.out)) hb); clear HO_10; clear HO_12; clear HB; have HO_10 := n0_; have HO_12 := n1_; have HB := n2_; clear n0_ n1_ n2_; (try clear hb); (try clear hb2); (try clear hk); (try clear hi)))
                         repeat (go_quiet (first | (go_at_call 16; (with_reducible refine (impl_CompleteWord.calls k3 t393 t411 t412 _ A59.out).mono ?_); rintro e w80 ⟨rfl, hb⟩; have n0_ := Aside0.mk (Kd.R_below (by (with_reducible repeat (first | apply Kd.R_alloc | apply Kd.R_drewN | apply Kd.R_drew)); exact HO_10.out) hb); have n1_ := Aside0.mk (Kd.R_below (by (with_reducible repeat (first | apply Kd.R_alloc | apply Kd.R_drewN | apply Kd.R_drew)); exact HO_12.out) hb); have n2_ := Aside0.mk (below_step (by repeat (first | (with_reducible first | exact HB.out | apply below_alloc | apply pw_below_drewN | apply below_drew1) | exact HB.out)) hb); clear HO_10; clear HO_12; clear HB; have HO_10 := n0_; have HO_12 := n1_; have HB := n2_; clear n0_ n1_ n2_; (try clear hb); (try clear hb2); (try clear hk); (try clear hi)) | (go_at_call 17; (with_reducible refine (impl_IsMatched.calls k3 t411 true t414 _ A60.out).mono ?_); rintro e w81 ⟨rfl, hb⟩; have n0_ := Aside0.mk (Kd.R_below (by (with_reducible repeat (first | apply Kd.R_alloc | apply Kd.R_drewN | apply Kd.R_drew)); exact HO_10.out) hb); have n1_ := Aside0.mk (Kd.R_below (by (with_reducible repeat (first | apply Kd.R_alloc | apply Kd.R_drewN | apply Kd.R_drew)); exact HO_12.out) hb); have n2_ := Aside0.mk (below_step (by repeat (first | (with_reducible first | exact HB.out | apply below_alloc | apply pw_below_drewN | apply below_drew1) | exact HB.out)) hb); clear HO_10; clear HO_12; clear HB; have HO_10 := n0_; have HO_12 := n1_; have HB := n2_; clear n0_ n1_ n2_; (try clear hb); (try clear hb2); (try clear hk); (try clear hi)) | (go_at_call 18; (with_reducible refine (impl_PendingOf.calls k3 t393 t415 t416 t417 _ A61.out).mono ?_); rintro e w82 ⟨rfl, hb⟩; have n0_ := Aside0.mk (Kd.R_below (by (with_reducible repeat (first | apply Kd.R_alloc | apply Kd.R_drewN | apply Kd.R_drew)); exact HO_10.out) hb); have n1_ := Aside0.mk (Kd.R_below (by (with_reducible repeat (first | apply Kd.R_alloc | apply Kd.R_drewN | apply Kd.R_drew)); exact HO_12.out) hb); have n2_ := Aside0.mk (below_step (by repeat (first | (with_reducible first | exact HB.out | apply below_alloc | apply pw_below_drewN | apply below_drew1) | exact HB.out)) hb); clear HO_10; clear HO_12; clear HB; have HO_10 := n0_; have HO_12 := n1_; have HB := n2_; clear n0_ n1_ n2_; (try clear hb); (try clear hb2); (try clear hk); (try clear hi)) | (go_at_call 19; (with_reducible refine (impl_JoinWords.calls k3 t393 (((⟨#[91]⟩ : ByteArray) ++ t394) ++ (⟨#[41]⟩ : ByteArray)) t418 t419 _ A62.out).mono ?_); rintro e w' ⟨rfl, ⟨nd, rfl⟩⟩; (try first | exact ⟨rfl, _, World.drewN_drewN _ _ _⟩ | exact ⟨rfl, _, Eq.trans (World.drewN_drewN _ _ _) (congrArg (World.drewN _) (Nat.add_assoc _ _ _))⟩)) | (go_at_call 13; (with_reducible refine (impl_PutAt.calls k3 t393 t395 (⟨#[40]⟩ : ByteArray) t420 t421 _ A63.out).mono ?_); rintro e w83 ⟨rfl, hb⟩; have n0_ := Aside0.mk (Kd.R_below (by (with_reducible repeat (first | apply Kd.R_alloc | apply Kd.R_drewN | apply Kd.R_drew)); exact HO_10.out) hb); have n1_ := Aside0.mk (Kd.R_below (by (with_reducible repeat (first | apply Kd.R_alloc | apply Kd.R_drewN | apply Kd.R_drew)); exact HO_12.out) hb); have n2_ := Aside0.mk (below_step (by repeat (first | (with_reducible first | exact HB.out | apply below_alloc | apply pw_below_drewN | apply below_drew1) | exact HB.out)) hb); clear HO_10; clear HO_12; clear HB; have HO_10 := n0_; have HO_12 := n1_; have HB := n2_; clear n0_ n1_ n2_; (try clear hb); (try clear hb2); (try clear hk); (try clear hi))); try go_wp2_with (first | (go_at_call 16; (with_reducible refine (impl_CompleteWord.calls k3 t393 t411 t412 _ A59.out).mono ?_); rintro e w80 ⟨rfl, hb⟩; have n0_ := Aside0.mk (Kd.R_below (by (with_reducible repeat (first | apply Kd.R_alloc | apply Kd.R_drewN | apply Kd.R_drew)); exact HO_10.out) hb); have n1_ := Aside0.mk (Kd.R_below (by (with_reducible repeat (first | apply Kd.R_alloc | apply Kd.R_drewN | apply Kd.R_drew)); exact HO_12.out) hb); have n2_ := Aside0.mk (below_step (by repeat (first | (with_reducible first | exact HB.out | apply below_alloc | apply pw_below_drewN | apply below_drew1) | exact HB.out)) hb); clear HO_10; clear HO_12; clear HB; have HO_10 := n0_; have HO_12 := n1_; have HB := n2_; clear n0_ n1_ n2_; (try clear hb); (try clear hb2); (try clear hk); (try clear hi)) | (go_at_call 17; (with_reducible refine (impl_IsMatched.calls k3 t411 true t414 _ A60.out).mono ?_); rintro e w81 ⟨rfl, hb⟩; have n0_ := Aside0.mk (Kd.R_below (by (with_reducible repeat (first | apply Kd.R_alloc | apply Kd.R_drewN | apply Kd.R_drew)); exact HO_10.out) hb); have n1_ := Aside0.mk (Kd.R_below (by (with_reducible repeat (first | apply Kd.R_alloc | apply Kd.R_drewN | apply Kd.R_drew)); exact HO_12.out) hb); have n2_ := Aside0.mk (below_step (by repeat (first | (with_reducible first | exact HB.out | apply below_alloc | apply pw_below_drewN | apply below_drew1) | exact HB.out)) hb); clear HO_10; clear HO_12; clear HB; have HO_10 := n0_; have HO_12 := n1_; have HB := n2_; clear n0_ n1_ n2_; (try clear hb); (try clear hb2); (try clear hk); (try clear hi)) | (go_at_call 18; (with_reducible refine (impl_PendingOf.calls k3 t393 t415 t416 t417 _ A61.out).mono ?_); rintro e w82 ⟨rfl, hb⟩; have n0_ := Aside0.mk (Kd.R_below (by (with_reducible repeat (first | apply Kd.R_alloc | apply Kd.R_drewN | apply Kd.R_drew)); exact HO_10.out) hb); have n1_ := Aside0.mk (Kd.R_below (by (with_reducible repeat (first | apply Kd.R_alloc | apply Kd.R_drewN | apply Kd.R_drew)); exact HO_12.out) hb); have n2_ := Aside0.mk (below_step (by repeat (first | (with_reducible first | exact HB.out | apply below_alloc | apply pw_below_drewN | apply below_drew1) | exact HB.out)) hb); clear HO_10; clear HO_12; clear HB; have HO_10 := n0_; have HO_12 := n1_; have HB := n2_; clear n0_ n1_ n2_; (try clear hb); (try clear hb2); (try clear hk); (try clear hi)) | (go_at_call 19; (with_reducible refine (impl_JoinWords.calls k3 t393 (((⟨#[91]⟩ : ByteArray) ++ t394) ++ (⟨#[41]⟩ : ByteArray)) t418 t419 _ A62.out).mono ?_); rintro e w' ⟨rfl, ⟨nd, rfl⟩⟩; (try first | exact ⟨rfl, _, World.drewN_drewN _ _ _⟩ | exact ⟨rfl, _, Eq.trans (World.drewN_drewN _ _ _) (congrArg (World.drewN _) (Nat.add_assoc _ _ _))⟩)) | (go_at_call 13; (with_reducible refine (impl_PutAt.calls k3 t393 t395 (⟨#[40]⟩ : ByteArray) t420 t421 _ A63.out).mono ?_); rintro e w83 ⟨rfl, hb⟩; have n0_ := Aside0.mk (Kd.R_below (by (with_reducible repeat (first | apply Kd.R_alloc | apply Kd.R_drewN | apply Kd.R_drew)); exact HO_10.out) hb); have n1_ := Aside0.mk (Kd.R_below (by (with_reducible repeat (first | apply Kd.R_alloc | apply Kd.R_drewN | apply Kd.R_drew)); exact HO_12.out) hb); have n2_ := Aside0.mk (below_step (by repeat (first | (with_reducible first | exact HB.out | apply below_alloc | apply pw_below_drewN | apply below_drew1) | exact HB.out)) hb); clear HO_10; clear HO_12; clear HB; have HO_10 := n0_; have HO_12 := n1_; have HB := n2_; clear n0_ n1_ n2_; (try clear hb); (try clear hb2); (try clear hk); (try clear hi))))
                         go_ret
                         exact ⟨by first | rfl | (simp [errW_none, errW_some] <;> rfl) | (simp [*, errW_none, errW_some] <;> rfl), by repeat (first | (with_reducible first | exact HB.out | apply below_alloc | apply pw_below_drewN | apply below_drew1) | exact HB.out)⟩
                       ·rw [if_neg c74] at H
                        exact absurd H (by simp)
                      ·rw [if_neg c73] at H
                       have c73b0 : (t419 == 0) = false := beq_eq_false_iff_ne.mpr c73
                       have c73b1 : (t419 != 0) = true := bne_iff_ne.mpr c73
                       obtain rfl := Option.some.inj H
                       go_wp2_with (first | (go_at_call 16; (with_reducible refine (impl_CompleteWord.calls k3 t393 t411 t412 _ A59.out).mono ?_); rintro e w84 ⟨rfl, hb⟩; have n0_ := Aside0.mk (Kd.R_below (by (with_reducible repeat (first | apply Kd.R_alloc | apply Kd.R_drewN | apply Kd.R_drew)); exact HO_10.out) hb); have n1_ := Aside0.mk (Kd.R_below (by (with_reducible repeat (first | apply Kd.R_alloc | apply Kd.R_drewN | apply Kd.R_drew)); exact HO_12.out) hb); have n2_ := Aside0.mk (below_step (by repeat (first | (with_reducible first | exact HB.out | apply below_alloc | apply pw_below_drewN | apply below_drew1) | exact HB.out)) hb); clear HO_10; clear HO_12; clear HB; have HO_10 := n0_; have HO_12 := n1_; have HB := n2_; clear n0_ n1_ n2_; (try clear hb); (try clear hb2); (try clear hk); (try clear hi)) | (go_at_call 17; (with_reducible refine (impl_IsMatched.calls k3 t411 true t414 _ A60.out).mono ?_); rintro e w85 ⟨rfl, hb⟩; have n0_ := Aside0.mk (Kd.R_below (by (with_reducible repeat (first | apply Kd.R_alloc | apply Kd.R_drewN | apply Kd.R_drew)); exact HO_10.out) hb); have n1_ := Aside0.mk (Kd.R_below (by (with_reducible repeat (first | apply Kd.R_alloc | apply Kd.R_drewN | apply Kd.R_drew)); exact HO_12.out) hb); have n2_ := Aside0.mk (below_step (by repeat (first | (with_reducible first | exact HB.out | apply below_alloc | apply pw_below_drewN | apply below_drew1) | exact HB.out)) hb); clear HO_10; clear HO_12; clear HB; have HO_10 := n0_; have HO_12 := n1_; have HB := n2_; clear n0_ n1_ n2_; (try clear hb); (try clear hb2); (try clear hk); (try clear hi)) | (go_at_call 18; (with_reducible refine (impl_PendingOf.calls k3 t393 t415 t416 t417 _ A61.out).mono ?_); rintro e w86 ⟨rfl, hb⟩; have n0_ := Aside0.mk (Kd.R_below (by (with_reducible repeat (first | apply Kd.R_alloc | apply Kd.R_drewN | apply Kd.R_drew)); exact HO_10.out) hb); have n1_ := Aside0.mk (Kd.R_below (by (with_reducible repeat (first | apply Kd.R_alloc | apply Kd.R_drewN | apply Kd.R_drew)); exact HO_12.out) hb); have n2_ := Aside0.mk (below_step (by repeat (first | (with_reducible first | exact HB.out | apply below_alloc | apply pw_below_drewN | apply below_drew1) | exact HB.out)) hb); clear HO_10; clear HO_12; clear HB; have HO_10 := n0_; have HO_12 := n1_; have HB := n2_; clear n0_ n1_ n2_; (try clear hb); (try clear hb2); (try clear hk); (try clear hi)) | (go_at_call 19; (with_reducible refine (impl_JoinWords.calls k3 t393 (((⟨#[91]⟩ : ByteArray) ++ t394) ++ (⟨#[41]⟩ : ByteArray)) t418 t419 _ A62.out).mono ?_); rintro e w' ⟨rfl, ⟨nd, rfl⟩⟩; (try first | exact ⟨rfl, _, World.drewN_drewN _ _ _⟩ | exact ⟨rfl, _, Eq.trans (World.drewN_drewN _ _ _) (congrArg (World.drewN _) (Nat.add_assoc _ _ _))⟩)) | (go_at_call 13; (with_reducible refine (impl_PutAt.calls k3 t393 t395 (⟨#[40]⟩ : ByteArray) t420 t421 _ A63.out).mono ?_); rintro e w87 ⟨rfl, hb⟩; have n0_ := Aside0.mk (Kd.R_below (by (with_reducible repeat (first | apply Kd.R_alloc | apply Kd.R_drewN | apply Kd.R_drew)); exact HO_10.out) hb); have n1_ := Aside0.mk (Kd.R_below (by (with_reducible repeat (first | apply Kd.R_alloc | apply Kd.R_drewN | apply Kd.R_drew)); exact HO_12.out) hb); have n2_ := Aside0.mk (below_step (by repeat (first | (with_reducible first | exact HB.out | apply below_alloc | apply pw_below_drewN | apply below_drew1) | exact HB.out)) hb); clear HO_10; clear HO_12; clear HB; have HO_10 := n0_; have HO_12 := n1_; have HB := n2_; clear n0_ n1_ n2_; (try clear hb); (try clear hb2); (try clear hk); (try clear hi)))
                       repeat (go_quiet (first | (go_at_call 16; (with_reducible refine (impl_CompleteWord.calls k3 t393 t411 t412 _ A59.out).mono ?_); rintro e w84 ⟨rfl, hb⟩; have n0_ := Aside0.mk (Kd.R_below (by (with_reducible repeat (first | apply Kd.R_alloc | apply Kd.R_drewN | apply Kd.R_drew)); exact HO_10.out) hb); have n1_ := Aside0.mk (Kd.R_below (by (with_reducible repeat (first | apply Kd.R_alloc | apply Kd.R_drewN | apply Kd.R_drew)); exact HO_12.out) hb); have n2_ := Aside0.mk (below_step (by repeat (first | (with_reducible first | exact HB.out | apply below_alloc | apply pw_below_drewN | apply below_drew1) | exact HB.out)) hb); clear HO_10; clear HO_12; clear HB; have HO_10 := n0_; have HO_12 := n1_; have HB := n2_; clear n0_ n1_ n2_; (try clear hb); (try clear hb2); (try clear hk); (try clear hi)) | (go_at_call 17; (with_reducible refine (impl_IsMatched.calls k3 t411 true t414 _ A60.out).mono ?_); rintro e w85 ⟨rfl, hb⟩; have n0_ := Aside0.mk (Kd.R_below (by (with_reducible repeat (first | apply Kd.R_alloc | apply Kd.R_drewN | apply Kd.R_drew)); exact HO_10.out) hb); have n1_ := Aside0.mk (Kd.R_below (by (with_reducible repeat (first | apply Kd.R_alloc | apply Kd.R_drewN | apply Kd.R_drew)); exact HO_12.out) hb); have n2_ := Aside0.mk (below_step (by repeat (first | (with_reducible first | exact HB.out | apply below_alloc | apply pw_below_drewN | apply below_drew1) | exact HB.out)) hb); clear HO_10; clear HO_12; clear HB; have HO_10 := n0_; have HO_12 := n1_; have HB := n2_; clear n0_ n1_ n2_; (try clear hb); (try clear hb2); (try clear hk); (try clear hi)) | (go_at_call 18; (with_reducible refine (impl_PendingOf.calls k3 t393 t415 t416 t417 _ A61.out).mono ?_); rintro e w86 ⟨rfl, hb⟩; have n0_ := Aside0.mk (Kd.R_below (by (with_reducible repeat (first | apply Kd.R_alloc | apply Kd.R_drewN | apply Kd.R_drew)); exact HO_10.out) hb); have n1_ := Aside0.mk (Kd.R_below (by (with_reducible repeat (first | apply Kd.R_alloc | apply Kd.R_drewN | apply Kd.R_drew)); exact HO_12.out) hb); have n2_ := Aside0.mk (below_step (by repeat (first | (with_reducible first | exact HB.out | apply below_alloc | apply pw_below_drewN | apply below_drew1) | exact HB.out)) hb); clear HO_10; clear HO_12; clear HB; have HO_10 := n0_; have HO_12 := n1_; have HB := n2_; clear n0_ n1_ n2_; (try clear hb); (try clear hb2); (try clear hk); (try clear hi)) | (go_at_call 19; (with_reducible refine (impl_JoinWords.calls k3 t393 (((⟨#[91]⟩ : ByteArray) ++ t394) ++ (⟨#[41]⟩ : ByteArray)) t418 t419 _ A62.out).mono ?_); rintro e w' ⟨rfl, ⟨nd, rfl⟩⟩; (try first | exact ⟨rfl, _, World.drewN_drewN _ _ _⟩ | exact ⟨rfl, _, Eq.trans (World.drewN_drewN _ _ _) (congrArg (World.drewN _) (Nat.add_assoc _ _ _))⟩)) | (go_at_call 13; (with_reducible refine (impl_PutAt.calls k3 t393 t395 (⟨#[40]⟩ : ByteArray) t420 t421 _ A63.out).mono ?_); rintro e w87 ⟨rfl, hb⟩; have n0_ := Aside0.mk (Kd.R_below (by (with_reducible repeat (first | apply Kd.R_alloc | apply Kd.R_drewN | apply Kd.R_drew)); exact HO_10.out) hb); have n1_ := Aside0.mk (Kd.R_below (by (with_reducible repeat (first | apply Kd.R_alloc | apply Kd.R_drewN | apply Kd.R_drew)); exact HO_12.out) hb); have n2_ := Aside0.mk (below_step (by repeat (first | (with_reducible first | exact HB.out | apply below_alloc | apply pw_below_drewN | apply below_drew1) | exact HB.out)) hb); clear HO_10; clear HO_12; clear HB; have HO_10 := n0_; have HO_12 := n1_; have HB := n2_; clear n0_ n1_ n2_; (try clear hb); (try clear hb2); (try clear hk); (try clear hi))); try go_wp2_with (first | (go_at_call 16; (with_reducible refine (impl_CompleteWord.calls k3 t393 t411 t412 _ A59.out).mono ?_); rintro e w84 ⟨rfl, hb⟩; have n0_ := Aside0.mk (Kd.R_below (by (with_reducible repeat (first | apply Kd.R_alloc | apply Kd.R_drewN | apply Kd.R_drew)); exact HO_10.out) hb); have n1_ := Aside0.mk (Kd.R_below (by (with_reducible repeat (first | apply Kd.R_alloc | apply Kd.R_drewN | apply Kd.R_drew)); exact HO_12.out) hb); have n2_ := Aside0.mk (below_step (by repeat (first | (with_reducible first | exact HB.out | apply below_alloc | apply pw_below_drewN | apply below_drew1) | exact HB.out)) hb); clear HO_10; clear HO_12; clear HB; have HO_10 := n0_; have HO_12 := n1_; have HB := n2_; clear n0_ n1_ n2_; (try clear hb); (try clear hb2); (try clear hk); (try clear hi)) | (go_at_call 17; (with_reducible refine (impl_IsMatched.calls k3 t411 true t414 _ A60.out).mono ?_); rintro e w85 ⟨rfl, hb⟩; have n0_ := Aside0.mk (Kd.R_below (by (with_reducible repeat (first | apply Kd.R_alloc | apply Kd.R_drewN | apply Kd.R_drew)); exact HO_10.out) hb); have n1_ := Aside0.mk (Kd.R_below (by (with_reducible repeat (first | apply Kd.R_alloc | apply Kd.R_drewN | apply Kd.R_drew)); exact HO_12.out) hb); have n2_ := Aside0.mk (below_step (by repeat (first | (with_reducible first | exact HB.out | apply below_alloc | apply pw_below_drewN | apply below_drew1) | exact HB.out)) hb); clear HO_10; clear HO_12; clear HB; have HO_10 := n0_; have HO_12 := n1_; have HB := n2_; clear n0_ n1_ n2_; (try clear hb); (try clear hb2); (try clear hk); (try clear hi)) | (go_at_call 18; (with_reducible refine (impl_PendingOf.calls k3 t393 t415 t416 t417 _ A61.out).mono ?_); rintro e w86 ⟨rfl, hb⟩; have n0_ := Aside0.mk (Kd.R_below (by (with_reducible repeat (first | apply Kd.R_alloc | apply Kd.R_drewN | apply Kd.R_drew)); exact HO_10.out) hb); have n1_ := Aside0.mk (Kd.R_below (by (with_reducible repeat (first | apply Kd.R_alloc | apply Kd.R_drewN | apply Kd.R_drew)); exact HO_12.out) hb); have n2_ := Aside0.mk (below_step (by repeat (first | (with_reducible first | exact HB.out | apply below_alloc | apply pw_below_drewN | apply below_drew1) | exact HB.out)) hb); clear HO_10; clear HO_12; clear HB; have HO_10 := n0_; have HO_12 := n1_; have HB := n2_; clear n0_ n1_ n2_; (try clear hb); (try clear hb2); (try clear hk); (try clear hi)) | (go_at_call 19; (with_reducible refine (impl_JoinWords.calls k3 t393 (((⟨#[91]⟩ : ByteArray) ++ t394) ++ (⟨#[41]⟩ : ByteArray)) t418 t419 _ A62.out).mono ?_); rintro e w' ⟨rfl, ⟨nd, rfl⟩⟩; (try first | exact ⟨rfl, _, World.drewN_drewN _ _ _⟩ | exact ⟨rfl, _, Eq.trans (World.drewN_drewN _ _ _) (congrArg (World.drewN _) (Nat.add_assoc _ _ _))⟩)) | (go_at_call 13; (with_reducible refine (impl_PutAt.calls k3 t393 t395 (⟨#[40]⟩ : ByteArray) t420 t421 _ A63.out).mono ?_); rintro e w87 ⟨rfl, hb⟩; have n0_ := Aside0.mk (Kd.R_below (by (with_reducible repeat (first | apply Kd.R_alloc | apply Kd.R_drewN | apply Kd.R_drew)); exact HO_10.out) hb); have n1_ := Aside0.mk (Kd.R_below (by (with_reducible repeat (first | apply Kd.R_alloc | apply Kd.R_drewN | apply Kd.R_drew)); exact HO_12.out) hb); have n2_ := Aside0.mk (below_step (by repeat (first | (with_reducible first | exact HB.out | apply below_alloc | apply pw_below_drewN | apply below_drew1) | exact HB.out)) hb); clear HO_10; clear HO_12; clear HB; have HO_10 := n0_; have HO_12 := n1_; have HB := n2_; clear n0_ n1_ n2_; (try clear hb); (try clear hb2); (try clear hk); (try clear hi))))
                       go_ret
                       exact ⟨by first | rfl | (simp [errW_none, errW_some] <;> rfl) | (simp [*, errW_none, errW_some] <;> rfl), by repeat (first | (with_reducible first | exact HB.out | apply below_alloc | apply pw_below_drewN | apply below_drew1) | exact HB.out)⟩
                     ·rw [if_neg c72] at H
                      have c72b0 : ((t411.extract (t415 : Int).toNat ((wrap64 (t415 + (t393.size : Int))) : Int).toNat).toList == t393.toList) = false := beq_eq_false_iff_ne.mpr c72
                      have c72b1 : ((t411.extract (t415 : Int).toNat ((wrap64 (t415 + (t393.size : Int))) : Int).toNat).toList != t393.toList) = true := bne_iff_ne.mpr c72
                      obtain rfl := Option.some.inj H
                      go_wp2_with (first | (go_at_call 16; (with_reducible refine (impl_CompleteWord.calls k3 t393 t411 t412 _ A59.out).mono ?_); rintro e w88 ⟨rfl, hb⟩; have n0_ := Aside0.mk (Kd.R_below (by (with_reducible repeat (first | apply Kd.R_alloc | apply Kd.R_drewN | apply Kd.R_drew)); exact HO_10.out) hb); have n1_ := Aside0.mk (Kd.R_below (by (with_reducible repeat (first | apply Kd.R_alloc | apply Kd.R_drewN | apply Kd.R_drew)); exact HO_12.out) hb); have n2_ := Aside0.mk (below_step (by repeat (first | (with_reducible first | exact HB.out | apply below_alloc | apply pw_below_drewN | apply below_drew1) | exact HB.out)) hb); clear HO_10; clear HO_12; clear HB; have HO_10 := n0_; have HO_12 := n1_; have HB := n2_; clear n0_ n1_ n2_; (try clear hb); (try clear hb2); (try clear hk); (try clear hi)) | (go_at_call 17; (with_reducible refine (impl_IsMatched.calls k3 t411 true t414 _ A60.out).mono ?_); rintro e w89 ⟨rfl, hb⟩; have n0_ := Aside0.mk (Kd.R_below (by (with_reducible repeat (first | apply Kd.R_alloc | apply Kd.R_drewN | apply Kd.R_drew)); exact HO_10.out) hb); have n1_ := Aside0.mk (Kd.R_below (by (with_reducible repeat (first | apply Kd.R_alloc | apply Kd.R_drewN | apply Kd.R_drew)); exact HO_12.out) hb); have n2_ := Aside0.mk (below_step (by repeat (first | (with_reducible first | exact HB.out | apply below_alloc | apply pw_below_drewN | apply below_drew1) | exact HB.out)) hb); clear HO_10; clear HO_12; clear HB; have HO_10 := n0_; have HO_12 := n1_; have HB := n2_; clear n0_ n1_ n2_; (try clear hb); (try clear hb2); (try clear hk); (try clear hi)) | (go_at_call 18; (with_reducible refine (impl_PendingOf.calls k3 t393 t415 t416 t417 _ A61.out).mono ?_); rintro e w90 ⟨rfl, hb⟩; have n0_ := Aside0.mk (Kd.R_below (by (with_reducible repeat (first | apply Kd.R_alloc | apply Kd.R_drewN | apply Kd.R_drew)); exact HO_10.out) hb); have n1_ := Aside0.mk (Kd.R_below (by (with_reducible repeat (first | apply Kd.R_alloc | apply Kd.R_drewN | apply Kd.R_drew)); exact HO_12.out) hb); have n2_ := Aside0.mk (below_step (by repeat (first | (with_reducible first | exact HB.out | apply below_alloc | apply pw_below_drewN | apply below_drew1) | exact HB.out)) hb); clear HO_10; clear HO_12; clear HB; have HO_10 := n0_; have HO_12 := n1_; have HB := n2_; clear n0_ n1_ n2_; (try clear hb); (try clear hb2); (try clear hk); (try clear hi)) | (go_at_call 19; (with_reducible refine (impl_JoinWords.calls k3 t393 (((⟨#[91]⟩ : ByteArray) ++ t394) ++ (⟨#[41]⟩ : ByteArray)) t418 t419 _ A62.out).mono ?_); rintro e w' ⟨rfl, ⟨nd, rfl⟩⟩; (try first | exact ⟨rfl, _, World.drewN_drewN _ _ _⟩ | exact ⟨rfl, _, Eq.trans (World.drewN_drewN _ _ _) (congrArg (World.drewN _) (Nat.add_assoc _ _ _))⟩)) | (go_at_call 13; (with_reducible refine (impl_PutAt.calls k3 t393 t395 (⟨#[40]⟩ : ByteArray) t420 t421 _ A63.out).mono ?_); rintro e w91 ⟨rfl, hb⟩; have n0_ := Aside0.mk (Kd.R_below (by (with_reducible repeat (first | apply Kd.R_alloc | apply Kd.R_drewN | apply Kd.R_drew)); exact HO_10.out) hb); have n1_ := Aside0.mk (Kd.R_below (by (with_reducible repeat (first | apply Kd.R_alloc | apply Kd.R_drewN | apply Kd.R_drew)); exact HO_12.out) hb); have n2_ := Aside0.mk (below_step (by repeat (first | (with_reducible first | exact HB.out | apply below_alloc | apply pw_below_drewN | apply below_drew1) | exact HB.out)) hb); clear HO_10; clear HO_12; clear HB; have HO_10 := n0_; have HO_12 := n1_; have HB := n2_; clear n0_ n1_ n2_; (try clear hb); (try clear hb2); (try clear hk); (try clear hi)))
                      repeat (go_quiet (first | (go_at_call 16; (with_reducible refine (impl_CompleteWord.calls k3 t393 t411 t412 _ A59.out).mono ?_); rintro e w88 ⟨rfl, hb⟩; have n0_ := Aside0.mk (Kd.R_below (by (with_reducible repeat (first | apply Kd.R_alloc | apply Kd.R_drewN | apply Kd.R_drew)); exact HO_10.out) hb); have n1_ := Aside0.mk (Kd.R_below (by (with_reducible repeat (first | apply Kd.R_alloc | apply Kd.R_drewN | apply Kd.R_drew)); exact HO_12.out) hb); have n2_ := Aside0.mk (below_step (by repeat (first | (with_reducible first | exact HB.out | apply below_alloc | apply pw_below_drewN | apply below_drew1) | exact HB.out)) hb); clear HO_10; clear HO_12; clear HB; have HO_10 := n0_; have HO_12 := n1_; have HB := n2_; clear n0_ n1_ n2_; (try clear hb); (try clear hb2); (try clear hk); (try clear hi)) | (go_at_call 17; (with_reducible refine (impl_IsMatched.calls k3 t411 true t414 _ A60.out).mono ?_); rintro e w89 ⟨rfl, hb⟩; have n0_ := Aside0.mk (Kd.R_below (by (with_reducible repeat (first | apply Kd.R_alloc | apply Kd.R_drewN | apply Kd.R_drew)); exact HO_10.out) hb); have n1_ := Aside0.mk (Kd.R_below (by (with_reducible repeat (first | apply Kd.R_alloc | apply Kd.R_drewN | apply Kd.R_drew)); exact HO_12.out) hb); have n2_ := Aside0.mk (below_step (by repeat (first | (with_reducible first | exact HB.out | apply below_alloc | apply pw_below_drewN | apply below_drew1) | exact HB.out)) hb); clear HO_10; clear HO_12; clear HB; have HO_10 := n0_; have HO_12 := n1_; have HB := n2_; clear n0_ n1_ n2_; (try clear hb); (try clear hb2); (try clear hk); (try clear hi)) | (go_at_call 18; (with_reducible refine (impl_PendingOf.calls k3 t393 t415 t416 t417 _ A61.out).mono ?_); rintro e w90 ⟨rfl, hb⟩; have n0_ := Aside0.mk (Kd.R_below (by (with_reducible repeat (first | apply Kd.R_alloc | apply Kd.R_drewN | apply Kd.R_drew)); exact HO_10.out) hb); have n1_ := Aside0.mk (Kd.R_below (by (with_reducible repeat (first | apply Kd.R_alloc | apply Kd.R_drewN | apply Kd.R_drew)); exact HO_12.out) hb); have n2_ := Aside0.mk (below_step (by repeat (first | (with_reducible first | exact HB.out | apply below_alloc | apply pw_below_drewN | apply below_drew1) | exact HB.out)) hb); clear HO_10; clear HO_12; clear HB; have HO_10 := n0_; have HO_12 := n1_; have HB := n2_; clear n0_ n1_ n2_; (try clear hb); (try clear hb2); (try clear hk); (try clear hi)) | (go_at_call 19; (with_reducible refine (impl_JoinWords.calls k3 t393 (((⟨#[91]⟩ : ByteArray) ++ t394) ++ (⟨#[41]⟩ : ByteArray)) t418 t419 _ A62.out).mono ?_); rintro e w' ⟨rfl, ⟨nd, rfl⟩⟩; (try first | exact ⟨rfl, _, World.drewN_drewN _ _ _⟩ | exact ⟨rfl, _, Eq.trans (World.drewN_drewN _ _ _) (congrArg (World.drewN _) (Nat.add_assoc _ _ _))⟩)) | (go_at_call 13; (with_reducible refine (impl_PutAt.calls k3 t393 t395 (⟨#[40]⟩ : ByteArray) t420 t421 _ A63.out).mono ?_); rintro e w91 ⟨rfl, hb⟩; have n0_ := Aside0.mk (Kd.R_below (by (with_reducible repeat (first | apply Kd.R_alloc | apply Kd.R_drewN | apply Kd.R_drew)); exact HO_10.out) hb); have n1_ := Aside0.mk (Kd.R_below (by (with_reducible repeat (first | apply Kd.R_alloc | apply Kd.R_drewN | apply Kd.R_drew)); exact HO_12.out) hb); have n2_ := Aside0.mk (below_step (by repeat (first | (with_reducible first | exact HB.out | apply below_alloc | apply pw_below_drewN | apply below_drew1) | exact HB.out)) hb); clear HO_10; clear HO_12; clear HB; have HO_10 := n0_; have HO_12 := n1_; have HB := n2_; clear n0_ n1_ n2_; (try clear hb); (try clear hb2); (try clear hk); (try clear hi))); try go_wp2_with (first | (go_at_call 16; (with_reducible refine (impl_CompleteWord.calls k3 t393 t411 t412 _ A59.out).mono ?_); rintro e w88 ⟨rfl, hb⟩; have n0_ := Aside0.mk (Kd.R_below (by (with_reducible repeat (first | apply Kd.R_alloc | apply Kd.R_drewN | apply Kd.R_drew)); exact HO_10.out) hb); have n1_ := Aside0.mk (Kd.R_below (by (with_reducible repeat (first | apply Kd.R_alloc | apply Kd.R_drewN | apply Kd.R_drew)); exact HO_12.out) hb); have n2_ := Aside0.mk (below_step (by repeat (first | (with_reducible first | exact HB.out | apply below_alloc | apply pw_below_drewN | apply below_drew1) | exact HB.out)) hb); clear HO_10; clear HO_12; clear HB; have HO_10 := n0_; have HO_12 := n1_; have HB := n2_; clear n0_ n1_ n2_; (try clear hb); (try clear hb2); (try clear hk); (try clear hi)) | (go_at_call 17; (with_reducible refine (impl_IsMatched.calls k3 t411 true t414 _ A60.out).mono ?_); rintro e w89 ⟨rfl, hb⟩; have n0_ := Aside0.mk (Kd.R_below (by (with_reducible repeat (first | apply Kd.R_alloc | apply Kd.R_drewN | apply Kd.R_drew)); exact HO_10.out) hb); have n1_ := Aside0.mk (Kd.R_below (by (with_reducible repeat (first | apply Kd.R_alloc | apply Kd.R_drewN | apply Kd.R_drew)); exact HO_12.out) hb); have n2_ := Aside0.mk (below_step (by repeat (first | (with_reducible first | exact HB.out | apply below_alloc | apply pw_below_drewN | apply below_drew1) | exact HB.out)) hb); clear HO_10; clear HO_12; clear HB; have HO_10 := n0_; have HO_12 := n1_; have HB := n2_; clear n0_ n1_ n2_; (try clear hb); (try clear hb2); (try clear hk); (try clear hi)) | (go_at_call 18; (with_reducible refine (impl_PendingOf.calls k3 t393 t415 t416 t417 _ A61.out).mono ?_); rintro e w90 ⟨rfl, hb⟩; have n0_ := Aside0.mk (Kd.R_below (by (with_reducible repeat (first | apply Kd.R_alloc | apply Kd.R_drewN | apply Kd.R_drew)); exact HO_10.out) hb); have n1_ := Aside0.mk (Kd.R_below (by (with_reducible repeat (first | apply Kd.R_alloc | apply Kd.R_drewN | apply Kd.R_drew)); exact HO_12.out) hb); have n2_ := Aside0.mk (below_step (by repeat (first | (with_reducible first | exact HB.out | apply below_alloc | apply pw_below_drewN | apply below_drew1) | exact HB.out)) hb); clear HO_10; clear HO_12; clear HB; have HO_10 := n0_; have HO_12 := n1_; have HB := n2_; clear n0_ n1_ n2_; (try clear hb); (try clear hb2); (try clear hk); (try clear hi)) | (go_at_call 19; (with_reducible refine (impl_JoinWords.calls k3 t393 (((⟨#[91]⟩ : ByteArray) ++ t394) ++ (⟨#[41]⟩ : ByteArray)) t418 t419 _ A62.out).mono ?_); rintro e w' ⟨rfl, ⟨nd, rfl⟩⟩; (try first | exact ⟨rfl, _, World.drewN_drewN _ _ _⟩ | exact ⟨rfl, _, Eq.trans (World.drewN_drewN _ _ _) (congrArg (World.drewN _) (Nat.add_assoc _ _ _))⟩)) | (go_at_call 13; (with_reducible refine (impl_PutAt.calls k3 t393 t395 (⟨#[40]⟩ : ByteArray) t420 t421 _ A63.out).mono ?_); rintro e w91 ⟨rfl, hb⟩; have n0_ := Aside0.mk (Kd.R_below (by (with_reducible repeat (first | apply Kd.R_alloc | apply Kd.R_drewN | apply Kd.R_drew)); exact HO_10.out) hb); have n1_ := Aside0.mk (Kd.R_below (by (with_reducible repeat (first | apply Kd.R_alloc | apply Kd.R_drewN | apply Kd.R_drew)); exact HO_12.out) hb); have n2_ := Aside0.mk (below_step (by repeat (first | (with_reducible first | exact HB.out | apply below_alloc | apply pw_below_drewN | apply below_drew1) | exact HB.out)) hb); clear HO_10; clear HO_12; clear HB; have HO_10 := n0_; have HO_12 := n1_; have HB := n2_; clear n0_ n1_ n2_; (try clear hb); (try clear hb2); (try clear hk); (try clear hi))))
                      go_ret
                      exact ⟨by first | rfl | (simp [errW_none, errW_some] <;> rfl) | (simp [*, errW_none, errW_some] <;> rfl), by repeat (first | (with_reducible first | exact HB.out | apply below_alloc | apply pw_below_drewN | apply below_drew1) | exact HB.out)⟩
                    ·rw [if_neg c71] at H
                     exact absurd H (by simp)
                   ·rw [if_neg c70] at H
                    exact absurd H (by simp)
                  ·rw [if_neg c69] at H
                   exact absurd H (by simp)
                 ·rw [if_neg c68] at H
                  have c68b0 : ((t411.size : Int) == (wrap64 ((wrap64 ((t393.size : Int) + t415)) + t416))) = false := beq_eq_false_iff_ne.mpr c68
                  have c68b1 : ((t411.size : Int) != (wrap64 ((wrap64 ((t393.size : Int) + t415)) + t416))) = true := bne_iff_ne.mpr c68
                  obtain rfl := Option.some.inj H
                  go_wp2_with (first | (go_at_call 16; (with_reducible refine (impl_CompleteWord.calls k3 t393 t411 t412 _ A59.out).mono ?_); rintro e w92 ⟨rfl, hb⟩; have n0_ := Aside0.mk (Kd.R_below (by (with_reducible repeat (first | apply Kd.R_alloc | apply Kd.R_drewN | apply Kd.R_drew)); exact HO_10.out) hb); have n1_ := Aside0.mk (Kd.R_below (by (with_reducible repeat (first | apply Kd.R_alloc | apply Kd.R_drewN | apply Kd.R_drew)); exact HO_12.out) hb); have n2_ := Aside0.mk (below_step (by repeat (first | (with_reducible first | exact HB.out | apply below_alloc | apply pw_below_drewN | apply below_drew1) | exact HB.out)) hb); clear HO_10; clear HO_12; clear HB; have HO_10 := n0_; have HO_12 := n1_; have HB := n2_; clear n0_ n1_ n2_; (try clear hb); (try clear hb2); (try clear hk); (try clear hi)) | (go_at_call 17; (with_reducible refine (impl_IsMatched.calls k3 t411 true t414 _ A60.out).mono ?_); rintro e w93 ⟨rfl, hb⟩; have n0_ := Aside0.mk (Kd.R_below (by (with_reducible repeat (first | apply Kd.R_alloc | apply Kd.R_drewN | apply Kd.R_drew)); exact HO_10.out) hb); have n1_ := Aside0.mk (Kd.R_below (by (with_reducible repeat (first | apply Kd.R_alloc | apply Kd.R_drewN | apply Kd.R_drew)); exact HO_12.out) hb); have n2_ := Aside0.mk (below_step (by repeat (first | (with_reducible first | exact HB.out | apply below_alloc | apply pw_below_drewN | apply below_drew1) | exact HB.out)) hb); clear HO_10; clear HO_12; clear HB; have HO_10 := n0_; have HO_12 := n1_; have HB := n2_; clear n0_ n1_ n2_; (try clear hb); (try clear hb2); (try clear hk); (try clear hi)) | (go_at_call 18; (with_reducible refine (impl_PendingOf.calls k3 t393 t415 t416 t417 _ A61.out).mono ?_); rintro e w94 ⟨rfl, hb⟩; have n0_ := Aside0.mk (Kd.R_below (by (with_reducible repeat (first | apply Kd.R_alloc | apply Kd.R_drewN | apply Kd.R_drew)); exact HO_10.out) hb); have n1_ := Aside0.mk (Kd.R_below (by (with_reducible repeat (first | apply Kd.R_alloc | apply Kd.R_drewN | apply Kd.R_drew)); exact HO_12.out) hb); have n2_ := Aside0.mk (below_step (by repeat (first | (with_reducible first | exact HB.out | apply below_alloc | apply pw_below_drewN | apply below_drew1) | exact HB.out)) hb); clear HO_10; clear HO_12; clear HB; have HO_10 := n0_; have HO_12 := n1_; have HB := n2_; clear n0_ n1_ n2_; (try clear hb); (try clear hb2); (try clear hk); (try clear hi)) | (go_at_call 19; (with_reducible refine (impl_JoinWords.calls k3 t393 (((⟨#[91]⟩ : ByteArray) ++ t394) ++ (⟨#[41]⟩ : ByteArray)) t418 t419 _ A62.out).mono ?_); rintro e w' ⟨rfl, ⟨nd, rfl⟩⟩; (try first | exact ⟨rfl, _, World.drewN_drewN _ _ _⟩ | exact ⟨rfl, _, Eq.trans (World.drewN_drewN _ _ _) (congrArg (World.drewN _) (Nat.add_assoc _ _ _))⟩)) | (go_at_call 13; (with_reducible refine (impl_PutAt.calls k3 t393 t395 (⟨#[40]⟩ : ByteArray) t420 t421 _ A63.out).mono ?_); rintro e w95 ⟨rfl, hb⟩; have n0_ := Aside0.mk (Kd.R_below (by (with_reducible repeat (first | apply Kd.R_alloc | apply Kd.R_drewN | apply Kd.R_drew)); exact HO_10.out) hb); have n1_ := Aside0.mk (Kd.R_below (by (with_reducible repeat (first | apply Kd.R_alloc | apply Kd.R_drewN | apply Kd.R_drew)); exact HO_12.out) hb); have n2_ := Aside0.mk (below_step (by repeat (first | (with_reducible first | exact HB.out | apply below_alloc | apply pw_below_drewN | apply below_drew1) | exact HB.out)) hb); clear HO_10; clear HO_12; clear HB; have HO_10 := n0_; have HO_12 := n1_; have HB := n2_; clear n0_ n1_ n2_; (try clear hb); (try clear hb2); (try clear hk); (try clear hi)))
                  repeat (go_quiet (first | (go_at_call 16; (with_reducible refine (impl_CompleteWord.calls k3 t393 t411 t412 _ A59.out).mono ?_); rintro e w92 ⟨rfl, hb⟩; have n0_ := Aside0.mk (Kd.R_below (by (with_reducible repeat (first | apply Kd.R_alloc | apply Kd.R_drewN | apply Kd.R_drew)); exact HO_10.out) hb); have n1_ := Aside0.mk (Kd.R_below (by (with_reducible repeat (first | apply Kd.R_alloc | apply Kd.R_drewN | apply Kd.R_drew)); exact HO_12.out) hb); have n2_ := Aside0.mk (below_step (by repeat (first | (with_reducible first | exact HB.out | apply below_alloc | apply pw_below_drewN | apply below_drew1) | exact HB.out)) hb); clear HO_10; clear HO_12; clear HB; have HO_10 := n0_; have HO_12 := n1_; have HB := n2_; clear n0_ n1_ n2_; (try clear hb); (try clear hb2); (try clear hk); (try clear hi)) | (go_at_call 17; (with_reducible refine (impl_IsMatched.calls k3 t411 true t414 _ A60.out).mono ?_); rintro e w93 ⟨rfl, hb⟩; have n0_ := Aside0.mk (Kd.R_below (by (with_reducible repeat (first | apply Kd.R_alloc | apply Kd.R_drewN | apply Kd.R_drew)); exact HO_10.out) hb); have n1_ := Aside0.mk (Kd.R_below (by (with_reducible repeat (first | apply Kd.R_alloc | apply Kd.R_drewN | apply Kd.R_drew)); exact HO_12.out) hb); have n2_ := Aside0.mk (below_step (by repeat (first | (with_reducible first | exact HB.out | apply below_alloc | apply pw_below_drewN | apply below_drew1) | exact HB.out)) hb); clear HO_10; clear HO_12; clear HB; have HO_10 := n0_; have HO_12 := n1_; have HB := n2_; clear n0_ n1_ n2_; (try clear hb); (try clear hb2); (try clear hk); (try clear hi)) | (go_at_call 18; (with_reducible refine (impl_PendingOf.calls k3 t393 t415 t416 t417 _ A61.out).mono ?_); rintro e w94 ⟨rfl, hb⟩; have n0_ := Aside0.mk (Kd.R_below (by (with_reducible repeat (first | apply Kd.R_alloc | apply Kd.R_drewN | apply Kd.R_drew)); exact HO_10.out) hb); have n1_ := Aside0.mk (Kd.R_below (by (with_reducible repeat (first | apply Kd.R_alloc | apply Kd.R_drewN | apply Kd.R_drew)); exact HO_12.out) hb); have n2_ := Aside0.mk (below_step (by repeat (first | (with_reducible first | exact HB.out | apply below_alloc | apply pw_below_drewN | apply below_drew1) | exact HB.out)) hb); clear HO_10; clear HO_12; clear HB; have HO_10 := n0_; have HO_12 := n1_; have HB := n2_; clear n0_ n1_ n2_; (try clear hb); (try clear hb2); (try clear hk); (try clear hi)) | (go_at_call 19; (with_reducible refine (impl_JoinWords.calls k3 t393 (((⟨#[91]⟩ : ByteArray) ++ t394) ++ (⟨#[41]⟩ : ByteArray)) t418 t419 _ A62.out).mono ?_); rintro e w' ⟨rfl, ⟨nd, rfl⟩⟩; (try first | exact ⟨rfl, _, World.drewN_drewN _ _ _⟩ | exact ⟨rfl, _, Eq.trans (World.drewN_drewN _ _ _) (congrArg (World.drewN _) (Nat.add_assoc _ _ _))⟩)) | (go_at_call 13; (with_reducible refine (impl_PutAt.calls k3 t393 t395 (⟨#[40]⟩ : ByteArray) t420 t421 _ A63.out).mono ?_); rintro e w95 ⟨rfl, hb⟩; have n0_ := Aside0.mk (Kd.R_below (by (with_reducible repeat (first | apply Kd.R_alloc | apply Kd.R_drewN | apply Kd.R_drew)); exact HO_10.out) hb); have n1_ := Aside0.mk (Kd.R_below (by (with_reducible repeat (first | apply Kd.R_alloc | apply Kd.R_drewN | apply Kd.R_drew)); exact HO_12.out) hb); have n2_ := Aside0.mk (below_step (by repeat (first | (with_reducible first | exact HB.out | apply below_alloc | apply pw_below_drewN | apply below_drew1) | exact HB.out)) hb); clear HO_10; clear HO_12; clear HB; have HO_10 := n0_; have HO_12 := n1_; have HB := n2_; clear n0_ n1_ n2_; (try clear hb); (try clear hb2); (try clear hk); (try clear hi))); try go_wp2_with (first | (go_at_call 16; (with_reducible refine (impl_CompleteWord.calls k3 t393 t411 t412 _ A59.out).mono ?_); rintro e w92 ⟨rfl, hb⟩; have n0_ := Aside0.mk (Kd.R_below (by (with_reducible repeat (first | apply Kd.R_alloc | apply Kd.R_drewN | apply Kd.R_drew)); exact HO_10.out) hb); have n1_ := Aside0.mk (Kd.R_below (by (with_reducible repeat (first | apply Kd.R_alloc | apply Kd.R_drewN | apply Kd.R_drew)); exact HO_12.out) hb); have n2_ := Aside0.mk (below_step (by repeat (first | (with_reducible first | exact HB.out | apply below_alloc | apply pw_below_drewN | apply below_drew1) | exact HB.out)) hb); clear HO_10; clear HO_12; clear HB; have HO_10 := n0_; have HO_12 := n1_; have HB := n2_; clear n0_ n1_ n2_; (try clear hb); (try clear hb2); (try clear hk); (try clear hi)) | (go_at_call 17; (with_reducible refine (impl_IsMatched.calls k3 t411 true t414 _ A60.out).mono ?_); rintro e w93 ⟨rfl, hb⟩; have n0_ := Aside0.mk (Kd.R_below (by (with_reducible repeat (first | apply Kd.R_alloc | apply Kd.R_drewN | apply Kd.R_drew)); exact HO_10.out) hb); have n1_ := Aside0.mk (Kd.R_below (by (with_reducible repeat (first | apply Kd.R_alloc | apply Kd.R_drewN | apply Kd.R_drew)); exact HO_12.out) hb); have n2_ := Aside0.mk (below_step (by repeat (first | (with_reducible first | exact HB.out | apply below_alloc | apply pw_below_drewN | apply below_drew1) | exact HB.out)) hb); clear HO_10; clear HO_12; clear HB; have HO_10 := n0_; have HO_12 := n1_; have HB := n2_; clear n0_ n1_ n2_; (try clear hb); (try clear hb2); (try clear hk); (try clear hi)) | (go_at_call 18; (with_reducible refine (impl_PendingOf.calls k3 t393 t415 t416 t417 _ A61.out).mono ?_); rintro e w94 ⟨rfl, hb⟩; have n0_ := Aside0.mk (Kd.R_below (by (with_reducible repeat (first | apply Kd.R_alloc | apply Kd.R_drewN | apply Kd.R_drew)); exact HO_10.out) hb); have n1_ := Aside0.mk (Kd.R_below (by (with_reducible repeat (first | apply Kd.R_alloc | apply Kd.R_drewN | apply Kd.R_drew)); exact HO_12.out) hb); have n2_ := Aside0.mk (below_step (by repeat (first | (with_reducible first | exact HB.out | apply below_alloc | apply pw_below_drewN | apply below_drew1) | exact HB.out)) hb); clear HO_10; clear HO_12; clear HB; have HO_10 := n0_; have HO_12 := n1_; have HB := n2_; clear n0_ n1_ n2_; (try clear hb); (try clear hb2); (try clear hk); (try clear hi)) | (go_at_call 19; (with_reducible refine (impl_JoinWords.calls k3 t393 (((⟨#[91]⟩ : ByteArray) ++ t394) ++ (⟨#[41]⟩ : ByteArray)) t418 t419 _ A62.out).mono ?_); rintro e w' ⟨rfl, ⟨nd, rfl⟩⟩; (try first | exact ⟨rfl, _, World.drewN_drewN _ _ _⟩ | exact ⟨rfl, _, Eq.trans (World.drewN_drewN _ _ _) (congrArg (World.drewN _) (Nat.add_assoc _ _ _))⟩)) | (go_at_call 13; (with_reducible refine (impl_PutAt.calls k3 t393 t395 (⟨#[40]⟩ : ByteArray) t420 t421 _ A63.out).mono ?_); rintro e w95 ⟨rfl, hb⟩; have n0_ := Aside0.mk (Kd.R_below (by (with_reducible repeat (first | apply Kd.R_alloc | apply Kd.R_drewN | apply Kd.R_drew)); exact HO_10.out) hb); have n1_ := Aside0.mk (Kd.R_below (by (with_reducible repeat (first | apply Kd.R_alloc | apply Kd.R_drewN | apply Kd.R_drew)); exact HO_12.out) hb); have n2_ := Aside0.mk (below_step (by repeat (first | (with_reducible first | exact HB.out | apply below_alloc | apply pw_below_drewN | apply below_drew1) | exact HB.out)) hb); clear HO_10; clear HO_12; clear HB; have HO_10 := n0_; have HO_12 := n1_; have HB := n2_; clear n0_ n1_ n2_; (try clear hb); (try clear hb2); (try clear hk); (try clear hi))))
                  go_ret
                  exact ⟨by first | rfl | (simp [errW_none, errW_some] <;> rfl) | (simp [*, errW_none, errW_some] <;> rfl), by repeat (first | (with_reducible first | exact HB.out | apply below_alloc | apply pw_below_drewN | apply below_drew1) | exact HB.out)⟩
                ·rw [if_neg c67] at H
                 have c67b0 : (t417 == 0) = false := beq_eq_false_iff_ne.mpr c67
                 have c67b1 : (t417 != 0) = true := bne_iff_ne.mpr c67
                 obtain rfl := Option.some.inj H
                 go_wp2_with (first | (go_at_call 16; (with_reducible refine (impl_CompleteWord.calls k3 t393 t411 t412 _ A59.out).mono ?_); rintro e w96 ⟨rfl, hb⟩; have n0_ := Aside0.mk (Kd.R_below (by (with_reducible repeat (first | apply Kd.R_alloc | apply Kd.R_drewN | apply Kd.R_drew)); exact HO_10.out) hb); have n1_ := Aside0.mk (Kd.R_below (by (with_reducible repeat (first | apply Kd.R_alloc | apply Kd.R_drewN | apply Kd.R_drew)); exact HO_12.out) hb); have n2_ := Aside0.mk (below_step (by repeat (first | (with_reducible first | exact HB.out | apply below_alloc | apply pw_below_drewN | apply below_drew1) | exact HB.out)) hb); clear HO_10; clear HO_12; clear HB; have HO_10 := n0_; have HO_12 := n1_; have HB := n2_; clear n0_ n1_ n2_; (try clear hb); (try clear hb2); (try clear hk); (try clear hi)) | (go_at_call 17; (with_reducible refine (impl_IsMatched.calls k3 t411 true t414 _ A60.out).mono ?_); rintro e w97 ⟨rfl, hb⟩; have n0_ := Aside0.mk (Kd.R_below (by (with_reducible repeat (first | apply Kd.R_alloc | apply Kd.R_drewN | apply Kd.R_drew)); exact HO_10.out) hb); have n1_ := Aside0.mk (Kd.R_below (by (with_reducible repeat (first | apply Kd.R_alloc | apply Kd.R_drewN | apply Kd.R_drew)); exact HO_12.out) hb); have n2_ := Aside0.mk (below_step (by repeat (first | (with_reducible first | exact HB.out | apply below_alloc | apply pw_below_drewN | apply below_drew1) | exact HB.out)) hb); clear HO_10; clear HO_12; clear HB; have HO_10 := n0_; have HO_12 := n1_; have HB := n2_; clear n0_ n1_ n2_; (try clear hb); (try clear hb2); (try clear hk); (try clear hi)) | (go_at_call 18; (with_reducible refine (impl_PendingOf.calls k3 t393 t415 t416 t417 _ A61.out).mono ?_); rintro e w98 ⟨rfl, hb⟩; have n0_ := Aside0.mk (Kd.R_below (by (with_reducible repeat (first | apply Kd.R_alloc | apply Kd.R_drewN | apply Kd.R_drew)); exact HO_10.out) hb); have n1_ := Aside0.mk (Kd.R_below (by (with_reducible repeat (first | apply Kd.R_alloc | apply Kd.R_drewN | apply Kd.R_drew)); exact HO_12.out) hb); have n2_ := Aside0.mk (below_step (by repeat (first | (with_reducible first | exact HB.out | apply below_alloc | apply pw_below_drewN | apply below_drew1) | exact HB.out)) hb); clear HO_10; clear HO_12; clear HB; have HO_10 := n0_; have HO_12 := n1_; have HB := n2_; clear n0_ n1_ n2_; (try clear hb); (try clear hb2); (try clear hk); (try clear hi)) | (go_at_call 19; (with_reducible refine (impl_JoinWords.calls k3 t393 (((⟨#[91]⟩ : ByteArray) ++ t394) ++ (⟨#[41]⟩ : ByteArray)) t418 t419 _ A62.out).mono ?_); rintro e w' ⟨rfl, ⟨nd, rfl⟩⟩; (try first | exact ⟨rfl, _, World.drewN_drewN _ _ _⟩ | exact ⟨rfl, _, Eq.trans (World.drewN_drewN _ _ _) (congrArg (World.drewN _) (Nat.add_assoc _ _ _))⟩)) | (go_at_call 13; (with_reducible refine (impl_PutAt.calls k3 t393 t395 (⟨#[40]⟩ : ByteArray) t420 t421 _ A63.out).mono ?_); rintro e w99 ⟨rfl, hb⟩; have n0_ := Aside0.mk (Kd.R_below (by (with_reducible repeat (first | apply Kd.R_alloc | apply Kd.R_drewN | apply Kd.R_drew)); exact HO_10.out) hb); have n1_ := Aside0.mk (Kd.R_below (by (with_reducible repeat (first | apply Kd.R_alloc | apply Kd.R_drewN | apply Kd.R_drew)); exact HO_12.out) hb); have n2_ := Aside0.mk (below_step (by repeat (first | (with_reducible first | exact HB.out | apply below_alloc | apply pw_below_drewN | apply below_drew1) | exact HB.out)) hb); clear HO_10; clear HO_12; clear HB; have HO_10 := n0_; have HO_12 := n1_; have HB := n2_; clear n0_ n1_ n2_; (try clear hb); (try clear hb2); (try clear hk); (try clear hi)))
                 repeat (go_quiet (first | (go_at_call 16; (with_reducible refine (impl_CompleteWord.calls k3 t393 t411 t412 _ A59.out).mono ?_); rintro e w96 ⟨rfl, hb⟩; have n0_ := Aside0.mk (Kd.R_below (by (with_reducible repeat (first | apply Kd.R_alloc | apply Kd.R_drewN | apply Kd.R_drew)); exact HO_10.out) hb); have n1_ := Aside0.mk (Kd.R_below (by (with_reducible repeat (first | apply Kd.R_alloc | apply Kd.R_drewN | apply Kd.R_drew)); exact HO_12.out) hb); have n2_ := Aside0.mk (below_step (by repeat (first | (with_reducible first | exact HB.out | apply below_alloc | apply pw_below_drewN | apply below_drew1) | exact HB.out)) hb); clear HO_10; clear HO_12; clear HB; have HO_10 := n0_; have HO_12 := n1_; have HB := n2_; clear n0_ n1_ n2_; (try clear hb); (try clear hb2); (try clear hk); (try clear hi)) | (go_at_call 17; (with_reducible refine (impl_IsMatched.calls k3 t411 true t414 _ A60.out).mono ?_); rintro e w97 ⟨rfl, hb⟩; have n0_ := Aside0.mk (Kd.R_below (by (with_reducible repeat (first | apply Kd.R_alloc | apply Kd.R_drewN | apply Kd.R_drew)); exact HO_10.out) hb); have n1_ := Aside0.mk (Kd.R_below (by (with_reducible repeat (first | apply Kd.R_alloc | apply Kd.R_drewN | apply Kd.R_drew)); exact HO_12.out) hb); have n2_ := Aside0.mk (below_step (by repeat (first | (with_reducible first | exact HB.out | apply below_alloc | apply pw_below_drewN | apply below_drew1) | exact HB.out)) hb); clear HO_10; clear HO_12; clear HB; have HO_10 := n0_; have HO_12 := n1_; have HB := n2_; clear n0_ n1_ n2_; (try clear hb); (try clear hb2); (try clear hk); (try clear hi)) | (go_at_call 18; (with_reducible refine (impl_PendingOf.calls k3 t393 t415 t416 t417 _ A61.out).mono ?_); rintro e w98 ⟨rfl, hb⟩; have n0_ := Aside0.mk (Kd.R_below (by (with_reducible repeat (first | apply Kd.R_alloc | apply Kd.R_drewN | apply Kd.R_drew)); exact HO_10.out) hb); have n1_ := Aside0.mk (Kd.R_below (by (with_reducible repeat (first | apply Kd.R_alloc | apply Kd.R_drewN | apply Kd.R_drew)); exact HO_12.out) hb); have n2_ := Aside0.mk (below_step (by repeat (first | (with_reducible first | exact HB.out | apply below_alloc | apply pw_below_drewN | apply below_drew1) | exact HB.out)) hb); clear HO_10; clear HO_12; clear HB; have HO_10 := n0_; have HO_12 := n1_; have HB := n2_; clear n0_ n1_ n2_; (try clear hb); (try clear hb2); (try clear hk); (try clear hi)) | (go_at_call 19; (with_reducible refine (impl_JoinWords.calls k3 t393 (((⟨#[91]⟩ : ByteArray) ++ t394) ++ (⟨#[41]⟩ : ByteArray)) t418 t419 _ A62.out).mono ?_); rintro e w' ⟨rfl, ⟨nd, rfl⟩⟩; (try first | exact ⟨rfl, _, World.drewN_drewN _ _ _⟩ | exact ⟨rfl, _, Eq.trans (World.drewN_drewN _ _ _) (congrArg (World.drewN _) (Nat.add_assoc _ _ _))⟩)) | (go_at_call 13; (with_reducible refine (impl_PutAt.calls k3 t393 t395 (⟨#[40]⟩ : ByteArray) t420 t421 _ A63.out).mono ?_); rintro e w99 ⟨rfl, hb⟩; have n0_ := Aside0.mk (Kd.R_below (by (with_reducible repeat (first | apply Kd.R_alloc | apply Kd.R_drewN | apply Kd.R_drew)); exact HO_10.out) hb); have n1_ := Aside0.mk (Kd.R_below (by (with_reducible repeat (first | apply Kd.R_alloc | apply Kd.R_drewN | apply Kd.R_drew)); exact HO_12.out) hb); have n2_ := Aside0.mk (below_step (by repeat (first | (with_reducible first | exact HB.out | apply below_alloc | apply pw_below_drewN | apply below_drew1) | exact HB.out)) hb); clear HO_10; clear HO_12; clear HB; have HO_10 := n0_; have HO_12 := n1_; have HB := n2_; clear n0_ n1_ n2_; (try clear hb); (try clear hb2); (try clear hk); (try clear hi))); try go_wp2_with (first | (go_at_call 16; (with_reducible refine (impl_CompleteWord.calls k3 t393 t411 t412 _ A59.out).mono ?_); rintro e w96 ⟨rfl, hb⟩; have n0_ := Aside0.mk (Kd.R_below (by (with_reducible repeat (first | apply Kd.R_alloc | apply Kd.R_drewN | apply Kd.R_drew)); exact HO_10.out) hb); have n1_ := Aside0.mk (Kd.R_below (by (with_reducible repeat (first | apply Kd.R_alloc | apply Kd.R_drewN | apply Kd.R_drew)); exact HO_12.out) hb); have n2_ := Aside0.mk (below_step (by repeat (first | (with_reducible first | exact HB.out | apply below_alloc | apply pw_below_drewN | apply below_drew1) | exact HB.out)) hb); clear HO_10; clear HO_12; clear HB; have HO_10 := n0_; have HO_12 := n1_; have HB := n2_; clear n0_ n1_ n2_; (try clear hb); (try clear hb2); (try clear hk); (try clear hi)) | (go_at_call 17; (with_reducible refine (impl_IsMatched.calls k3 t411 true t414 _ A60.out).mono ?_); rintro e w97 ⟨rfl, hb⟩; have n0_ := Aside0.mk (Kd.R_below (by (with_reducible repeat (first | apply Kd.R_alloc | apply Kd.R_drewN | apply Kd.R_drew)); exact HO_10.out) hb); have n1_ := Aside0.mk (Kd.R_below (by (with_reducible repeat (first | apply Kd.R_alloc | apply Kd.R_drewN | apply Kd.R_drew)); exact HO_12.out) hb); have n2_ := Aside0.mk (below_step (by repeat (first | (with_reducible first | exact HB.out | apply below_alloc | apply pw_below_drewN | apply below_drew1) | exact HB.out)) hb); clear HO_10; clear HO_12; clear HB; have HO_10 := n0_; have HO_12 := n1_; have HB := n2_; clear n0_ n1_ n2_; (try clear hb); (try clear hb2); (try clear hk); (try clear hi)) | (go_at_call 18; (with_reducible refine (impl_PendingOf.calls k3 t393 t415 t416 t417 _ A61.out).mono ?_); rintro e w98 ⟨rfl, hb⟩; have n0_ := Aside0.mk (Kd.R_below (by (with_reducible repeat (first | apply Kd.R_alloc | apply Kd.R_drewN | apply Kd.R_drew)); exact HO_10.out) hb); have n1_ := Aside0.mk (Kd.R_below (by (with_reducible repeat (first | apply Kd.R_alloc | apply Kd.R_drewN | apply Kd.R_drew)); exact HO_12.out) hb); have n2_ := Aside0.mk (below_step (by repeat (first | (with_reducible first | exact HB.out | apply below_alloc | apply pw_below_drewN | apply below_drew1) | exact HB.out)) hb); clear HO_10; clear HO_12; clear HB; have HO_10 := n0_; have HO_12 := n1_; have HB := n2_; clear n0_ n1_ n2_; (try clear hb); (try clear hb2); (try clear hk); (try clear hi)) | (go_at_call 19; (with_reducible refine (impl_JoinWords.calls k3 t393 (((⟨#[91]⟩ : ByteArray) ++ t394) ++ (⟨#[41]⟩ : ByteArray)) t418 t419 _ A62.out).mono ?_); rintro e w' ⟨rfl, ⟨nd, rfl⟩⟩; (try first | exact ⟨rfl, _, World.drewN_drewN _ _ _⟩ | exact ⟨rfl, _, Eq.trans (World.drewN_drewN _ _ _) (congrArg (World.drewN _) (Nat.add_assoc _ _ _))⟩)) | (go_at_call 13; (with_reducible refine (impl_PutAt.calls k3 t393 t395 (⟨#[40]⟩ : ByteArray) t420 t421 _ A63.out).mono ?_); rintro e w99 ⟨rfl, hb⟩; have n0_ := Aside0.mk (Kd.R_below (by (with_reducible repeat (first | apply Kd.R_alloc | apply Kd.R_drewN | apply Kd.R_drew)); exact HO_10.out) hb); have n1_ := Aside0.mk (Kd.R_below (by (with_reducible repeat (first | apply Kd.R_alloc | apply Kd.R_drewN | apply Kd.R_drew)); exact HO_12.out) hb); have n2_ := Aside0.mk (below_step (by repeat (first | (with_reducible first | exact HB.out | apply below_alloc | apply pw_below_drewN | apply below_drew1) | exact HB.out)) hb); clear HO_10; clear HO_12; clear HB; have HO_10 := n0_; have HO_12 := n1_; have HB := n2_; clear n0_ n1_ n2_; (try clear hb); (try clear hb2); (try clear hk); (try clear hi))))
                 go_ret
                 exact ⟨by first | rfl | (simp [errW_none, errW_some] <;> rfl) | (simp [*, errW_none, errW_some] <;> rfl), by repeat (first | (with_reducible first | exact HB.out | apply below_alloc | apply pw_below_drewN | apply below_drew1) | exact HB.out)⟩
               ·replace c66 := Bool.eq_false_iff.mpr c66
                subst c66
                have H1 : (some false) = some r := by rw [if_neg (show ¬ (false = true) by decide)] at H; exact H
                clear H
                have H := H1
                clear H1
                obtain rfl := Option.some.inj H
                go_wp2_with (first | (go_at_call 16; (with_reducible refine (impl_CompleteWord.calls k3 t393 t411 t412 _ A59.out).mono ?_); rintro e w100 ⟨rfl, hb⟩; have n0_ := Aside0.mk (Kd.R_below (by (with_reducible repeat (first | apply Kd.R_alloc | apply Kd.R_drewN | apply Kd.R_drew)); exact HO_10.out) hb); have n1_ := Aside0.mk (Kd.R_below (by (with_reducible repeat (first | apply Kd.R_alloc | apply Kd.R_drewN | apply Kd.R_drew)); exact HO_12.out) hb); have n2_ := Aside0.mk (below_step (by repeat (first | (with_reducible first | exact HB.out | apply below_alloc | apply pw_below_drewN | apply below_drew1) | exact HB.out)) hb); clear HO_10; clear HO_12; clear HB; have HO_10 := n0_; have HO_12 := n1_; have HB := n2_; clear n0_ n1_ n2_; (try clear hb); (try clear hb2); (try clear hk); (try clear hi)) | (go_at_call 17; (with_reducible refine (impl_IsMatched.calls k3 t411 false t414 _ A60.out).mono ?_); rintro e w101 ⟨rfl, hb⟩; have n0_ := Aside0.mk (Kd.R_below (by (with_reducible repeat (first | apply Kd.R_alloc | apply Kd.R_drewN | apply Kd.R_drew)); exact HO_10.out) hb); have n1_ := Aside0.mk (Kd.R_below (by (with_reducible repeat (first | apply Kd.R_alloc | apply Kd.R_drewN | apply Kd.R_drew)); exact HO_12.out) hb); have n2_ := Aside0.mk (below_step (by repeat (first | (with_reducible first | exact HB.out | apply below_alloc | apply pw_below_drewN | apply below_drew1) | exact HB.out)) hb); clear HO_10; clear HO_12; clear HB; have HO_10 := n0_; have HO_12 := n1_; have HB := n2_; clear n0_ n1_ n2_; (try clear hb); (try clear hb2); (try clear hk); (try clear hi)) | (go_at_call 18; (with_reducible refine (impl_PendingOf.calls k3 t393 t415 t416 t417 _ A61.out).mono ?_); rintro e w102 ⟨rfl, hb⟩; have n0_ := Aside0.mk (Kd.R_below (by (with_reducible repeat (first | apply Kd.R_alloc | apply Kd.R_drewN | apply Kd.R_drew)); exact HO_10.out) hb); have n1_ := Aside0.mk (Kd.R_below (by (with_reducible repeat (first | apply Kd.R_alloc | apply Kd.R_drewN | apply Kd.R_drew)); exact HO_12.out) hb); have n2_ := Aside0.mk (below_step (by repeat (first | (with_reducible first | exact HB.out | apply below_alloc | apply pw_below_drewN | apply below_drew1) | exact HB.out)) hb); clear HO_10; clear HO_12; clear HB; have HO_10 := n0_; have HO_12 := n1_; have HB := n2_; clear n0_ n1_ n2_; (try clear hb); (try clear hb2); (try clear hk); (try clear hi)) | (go_at_call 19; (with_reducible refine (impl_JoinWords.calls k3 t393 (((⟨#[91]⟩ : ByteArray) ++ t394) ++ (⟨#[41]⟩ : ByteArray)) t418 t419 _ A62.out).mono ?_); rintro e w' ⟨rfl, ⟨nd, rfl⟩⟩; (try first | exact ⟨rfl, _, World.drewN_drewN _ _ _⟩ | exact ⟨rfl, _, Eq.trans (World.drewN_drewN _ _ _) (congrArg (World.drewN _) (Nat.add_assoc _ _ _))⟩)) | (go_at_call 13; (with_reducible refine (impl_PutAt.calls k3 t393 t395 (⟨#[40]⟩ : ByteArray) t420 t421 _ A63.out).mono ?_); rintro e w103 ⟨rfl, hb⟩; have n0_ := Aside0.mk (Kd.R_below (by (with_reducible repeat (first | apply Kd.R_alloc | apply Kd.R_drewN | apply Kd.R_drew)); exact HO_10.out) hb); have n1_ := Aside0.mk (Kd.R_below (by (with_reducible repeat (first | apply Kd.R_alloc | apply Kd.R_drewN | apply Kd.R_drew)); exact HO_12.out) hb); have n2_ := Aside0.mk (below_step (by repeat (first | (with_reducible first | exact HB.out | apply below_alloc | apply pw_below_drewN | apply below_drew1) | exact HB.out)) hb); clear HO_10; clear HO_12; clear HB; have HO_10 := n0_; have HO_12 := n1_; have HB := n2_; clear n0_ n1_ n2_; (try clear hb); (try clear hb2); (try clear hk); (try clear hi)))
                repeat (go_quiet (first | (go_at_call 16; (with_reducible refine (impl_CompleteWord.calls k3 t393 t411 t412 _ A59.out).mono ?_); rintro e w100 ⟨rfl, hb⟩; have n0_ := Aside0.mk (Kd.R_below (by (with_reducible repeat (first | apply Kd.R_alloc | apply Kd.R_drewN | apply Kd.R_drew)); exact HO_10.out) hb); have n1_ := Aside0.mk (Kd.R_below (by (with_reducible repeat (first | apply Kd.R_alloc | apply Kd.R_drewN | apply Kd.R_drew)); exact HO_12.out) hb); have n2_ := Aside0.mk (below_step (by repeat (first | (with_reducible first | exact HB.out | apply below_alloc | apply pw_below_drewN | apply below_drew1) | exact HB.out)) hb); clear HO_10; clear HO_12; clear HB; have HO_10 := n0_; have HO_12 := n1_; have HB := n2_; clear n0_ n1_ n2_; (try clear hb); (try clear hb2); (try clear hk); (try clear hi)) | (go_at_call 17; (with_reducible refine (impl_IsMatched.calls k3 t411 false t414 _ A60.out).mono ?_); rintro e w101 ⟨rfl, hb⟩; have n0_ := Aside0.mk (Kd.R_below (by (with_reducible repeat (first | apply Kd.R_alloc | apply Kd.R_drewN | apply Kd.R_drew)); exact HO_10.out) hb); have n1_ := Aside0.mk (Kd.R_below (by (with_reducible repeat (first | apply Kd.R_alloc | apply Kd.R_drewN | apply Kd.R_drew)); exact HO_12.out) hb); have n2_ := Aside0.mk (below_step (by repeat (first | (with_reducible first | exact HB.out | apply below_alloc | apply pw_below_drewN | apply below_drew1) | exact HB.out)) hb); clear HO_10; clear HO_12; clear HB; have HO_10 := n0_; have HO_12 := n1_; have HB := n2_; clear n0_ n1_ n2_; (try clear hb); (try clear hb2); (try clear hk); (try clear hi)) | (go_at_call 18; (with_reducible refine (impl_PendingOf.calls k3 t393 t415 t416 t417 _ A61.out).mono ?_); rintro e w102 ⟨rfl, hb⟩; have n0_ := Aside0.mk (Kd.R_below (by (with_reducible repeat (first | apply Kd.R_alloc | apply Kd.R_drewN | apply Kd.R_drew)); exact HO_10.out) hb); have n1_ := Aside0.mk (Kd.R_below (by (with_reducible repeat (first | apply Kd.R_alloc | apply Kd.R_drewN | apply Kd.R_drew)); exact HO_12.out) hb); have n2_ := Aside0.mk (below_step (by repeat (first | (with_reducible first | exact HB.out | apply below_alloc | apply pw_below_drewN | apply below_drew1) | exact HB.out)) hb); clear HO_10; clear HO_12; clear HB; have HO_10 := n0_; have HO_12 := n1_; have HB := n2_; clear n0_ n1_ n2_; (try clear hb); (try clear hb2); (try clear hk); (try clear hi)) | (go_at_call 19; (with_reducible refine (impl_JoinWords.calls k3 t393 (((⟨#[91]⟩ : ByteArray) ++ t394) ++ (⟨#[41]⟩ : ByteArray)) t418 t419 _ A62.out).mono ?_); rintro e w' ⟨rfl, ⟨nd, rfl⟩⟩; (try first | exact ⟨rfl, _, World.drewN_drewN _ _ _⟩ | exact ⟨rfl, _, Eq.trans (World.drewN_drewN _ _ _) (congrArg (World.drewN _) (Nat.add_assoc _ _ _))⟩)) | (go_at_call 13; (with_reducible refine (impl_PutAt.calls k3 t393 t395 (⟨#[40]⟩ : ByteArray) t420 t421 _ A63.out).mono ?_); rintro e w103 ⟨rfl, hb⟩; have n0_ := Aside0.mk (Kd.R_below (by (with_reducible repeat (first | apply Kd.R_alloc | apply Kd.R_drewN | apply Kd.R_drew)); exact HO_10.out) hb); have n1_ := Aside0.mk (Kd.R_below (by (with_reducible repeat (first | apply Kd.R_alloc | apply Kd.R_drewN | apply Kd.R_drew)); exact HO_12.out) hb); have n2_ := Aside0.mk (below_step (by repeat (first | (with_reducible first | exact HB.out | apply below_alloc | apply pw_below_drewN | apply below_drew1) | exact HB.out)) hb); clear HO_10; clear HO_12; clear HB; have HO_10 := n0_; have HO_12 := n1_; have HB := n2_; clear n0_ n1_ n2_; (try clear hb); (try clear hb2); (try clear hk); (try clear hi))); try go_wp2_with (first | (go_at_call 16; (with_reducible refine (impl_CompleteWord.calls k3 t393 t411 t412 _ A59.out).mono ?_); rintro e w100 ⟨rfl, hb⟩; have n0_ := Aside0.mk (Kd.R_below (by (with_reducible repeat (first | apply Kd.R_alloc | apply Kd.R_drewN | apply Kd.R_drew)); exact HO_10.out) hb); have n1_ := Aside0.mk (Kd.R_below (by (with_reducible repeat (first | apply Kd.R_alloc | apply Kd.R_drewN | apply Kd.R_drew)); exact HO_12.out) hb); have n2_ := Aside0.mk (below_step (by repeat (first | (with_reducible first | exact HB.out | apply below_alloc | apply pw_below_drewN | apply below_drew1) | exact HB.out)) hb); clear HO_10; clear HO_12; clear HB; have HO_10 := n0_; have HO_12 := n1_; have HB := n2_; clear n0_ n1_ n2_; (try clear hb); (try clear hb2); (try clear hk); (try clear hi)) | (go_at_call 17; (with_reducible refine (impl_IsMatched.calls k3 t411 false t414 _ A60.out).mono ?_); rintro e w101 ⟨rfl, hb⟩; have n0_ := Aside0.mk (Kd.R_below (by (with_reducible repeat (first | apply Kd.R_alloc | apply Kd.R_drewN | apply Kd.R_drew)); exact HO_10.out) hb); have n1_ := Aside0.mk (Kd.R_below (by (with_reducible repeat (first | apply Kd.R_alloc | apply Kd.R_drewN | apply Kd.R_drew)); exact HO_12.out) hb); have n2_ := Aside0.mk (below_step (by repeat (first | (with_reducible first | exact HB.out | apply below_alloc | apply pw_below_drewN | apply below_drew1) | exact HB.out)) hb); clear HO_10; clear HO_12; clear HB; have HO_10 := n0_; have HO_12 := n1_; have HB := n2_; clear n0_ n1_ n2_; (try clear hb); (try clear hb2); (try clear hk); (try clear hi)) | (go_at_call 18; (with_reducible refine (impl_PendingOf.calls k3 t393 t415 t416 t417 _ A61.out).mono ?_); rintro e w102 ⟨rfl, hb⟩; have n0_ := Aside0.mk (Kd.R_below (by (with_reducible repeat (first | apply Kd.R_alloc | apply Kd.R_drewN | apply Kd.R_drew)); exact HO_10.out) hb); have n1_ := Aside0.mk (Kd.R_below (by (with_reducible repeat (first | apply Kd.R_alloc | apply Kd.R_drewN | apply Kd.R_drew)); exact HO_12.out) hb); have n2_ := Aside0.mk (below_step (by repeat (first | (with_reducible first | exact HB.out | apply below_alloc | apply pw_below_drewN | apply below_drew1) | exact HB.out)) hb); clear HO_10; clear HO_12; clear HB; have HO_10 := n0_; have HO_12 := n1_; have HB := n2_; clear n0_ n1_ n2_; (try clear hb); (try clear hb2); (try clear hk); (try clear hi)) | (go_at_call 19; (with_reducible refine (impl_JoinWords.calls k3 t393 (((⟨#[91]⟩ : ByteArray) ++ t394) ++ (⟨#[41]⟩ : ByteArray)) t418 t419 _ A62.out).mono ?_); rintro e w' ⟨rfl, ⟨nd, rfl⟩⟩; (try first | exact ⟨rfl, _, World.drewN_drewN _ _ _⟩ | exact ⟨rfl, _, Eq.trans (World.drewN_drewN _ _ _) (congrArg (World.drewN _) (Nat.add_assoc _ _ _))⟩)) | (go_at_call 13; (with_reducible refine (impl_PutAt.calls k3 t393 t395 (⟨#[40]⟩ : ByteArray) t420 t421 _ A63.out).mono ?_); rintro e w103 ⟨rfl, hb⟩; have n0_ := Aside0.mk (Kd.R_below (by (with_reducible repeat (first | apply Kd.R_alloc | apply Kd.R_drewN | apply Kd.R_drew)); exact HO_10.out) hb); have n1_ := Aside0.mk (Kd.R_below (by (with_reducible repeat (first | apply Kd.R_alloc | apply Kd.R_drewN | apply Kd.R_drew)); exact HO_12.out) hb); have n2_ := Aside0.mk (below_step (by repeat (first | (with_reducible first | exact HB.out | apply below_alloc | apply pw_below_drewN | apply below_drew1) | exact HB.out)) hb); clear HO_10; clear HO_12; clear HB; have HO_10 := n0_; have HO_12 := n1_; have HB := n2_; clear n0_ n1_ n2_; (try clear hb); (try clear hb2); (try clear hk); (try clear hi))))
                go_ret
                exact ⟨by first | rfl | (simp [errW_none, errW_some] <;> rfl) | (simp [*, errW_none, errW_some] <;> rfl), by repeat (first | (with_reducible first | exact HB.out | apply below_alloc | apply pw_below_drewN | apply below_drew1) | exact HB.out)⟩
              ·rw [if_neg c65] at H
               have c65b0 : (t414 == 0) = false := beq_eq_false_iff_ne.mpr c65
               have c65b1 : (t414 != 0) = true := bne_iff_ne.mpr c65
               obtain rfl := Option.some.inj H
               go_wp2_with (first | (go_at_call 16; (with_reducible refine (impl_CompleteWord.calls k3 t393 t411 t412 _ A59.out).mono ?_); rintro e w104 ⟨rfl, hb⟩; have n0_ := Aside0.mk (Kd.R_below (by (with_reducible repeat (first | apply Kd.R_alloc | apply Kd.R_drewN | apply Kd.R_drew)); exact HO_10.out) hb); have n1_ := Aside0.mk (Kd.R_below (by (with_reducible repeat (first | apply Kd.R_alloc | apply Kd.R_drewN | apply Kd.R_drew)); exact HO_12.out) hb); have n2_ := Aside0.mk (below_step (by repeat (first | (with_reducible first | exact HB.out | apply below_alloc | apply pw_below_drewN | apply below_drew1) | exact HB.out)) hb); clear HO_10; clear HO_12; clear HB; have HO_10 := n0_; have HO_12 := n1_; have HB := n2_; clear n0_ n1_ n2_; (try clear hb); (try clear hb2); (try clear hk); (try clear hi)) | (go_at_call 17; (with_reducible refine (impl_IsMatched.calls k3 t411 t413 t414 _ A60.out).mono ?_); rintro e w105 ⟨rfl, hb⟩; have n0_ := Aside0.mk (Kd.R_below (by (with_reducible repeat (first | apply Kd.R_alloc | apply Kd.R_drewN | apply Kd.R_drew)); exact HO_10.out) hb); have n1_ := Aside0.mk (Kd.R_below (by (with_reducible repeat (first | apply Kd.R_alloc | apply Kd.R_drewN | apply Kd.R_drew)); exact HO_12.out) hb); have n2_ := Aside0.mk (below_step (by repeat (first | (with_reducible first | exact HB.out | apply below_alloc | apply pw_below_drewN | apply below_drew1) | exact HB.out)) hb); clear HO_10; clear HO_12; clear HB; have HO_10 := n0_; have HO_12 := n1_; have HB := n2_; clear n0_ n1_ n2_; (try clear hb); (try clear hb2); (try clear hk); (try clear hi)) | (go_at_call 18; (with_reducible refine (impl_PendingOf.calls k3 t393 t415 t416 t417 _ A61.out).mono ?_); rintro e w106 ⟨rfl, hb⟩; have n0_ := Aside0.mk (Kd.R_below (by (with_reducible repeat (first | apply Kd.R_alloc | apply Kd.R_drewN | apply Kd.R_drew)); exact HO_10.out) hb); have n1_ := Aside0.mk (Kd.R_below (by (with_reducible repeat (first | apply Kd.R_alloc | apply Kd.R_drewN | apply Kd.R_drew)); exact HO_12.out) hb); have n2_ := Aside0.mk (below_step (by repeat (first | (with_reducible first | exact HB.out | apply below_alloc | apply pw_below_drewN | apply below_drew1) | exact HB.out)) hb); clear HO_10; clear HO_12; clear HB; have HO_10 := n0_; have HO_12 := n1_; have HB := n2_; clear n0_ n1_ n2_; (try clear hb); (try clear hb2); (try clear hk); (try clear hi)) | (go_at_call 19; (with_reducible refine (impl_JoinWords.calls k3 t393 (((⟨#[91]⟩ : ByteArray) ++ t394) ++ (⟨#[41]⟩ : ByteArray)) t418 t419 _ A62.out).mono ?_); rintro e w' ⟨rfl, ⟨nd, rfl⟩⟩; (try first | exact ⟨rfl, _, World.drewN_drewN _ _ _⟩ | exact ⟨rfl, _, Eq.trans (World.drewN_drewN _ _ _) (congrArg (World.drewN _) (Nat.add_assoc _ _ _))⟩)) | (go_at_call 13; (with_reducible refine (impl_PutAt.calls k3 t393 t395 (⟨#[40]⟩ : ByteArray) t420 t421 _ A63.out).mono ?_); rintro e w107 ⟨rfl, hb⟩; have n0_ := Aside0.mk (Kd.R_below (by (with_reducible repeat (first | apply Kd.R_alloc | apply Kd.R_drewN | apply Kd.R_drew)); exact HO_10.out) hb); have n1_ := Aside0.mk (Kd.R_below (by (with_reducible repeat (first | apply Kd.R_alloc | apply Kd.R_drewN | apply Kd.R_drew)); exact HO_12.out) hb); have n2_ := Aside0.mk (below_step (by repeat (first | (with_reducible first | exact HB.out | apply below_alloc | apply pw_below_drewN | apply below_drew1) | exact HB.out)) hb); clear HO_10; clear HO_12; clear HB; have HO_10 := n0_; have HO_12 := n1_; have HB := n2_; clear n0_ n1_ n2_; (try clear hb); (try clear hb2); (try clear hk); (try clear hi)))
               repeat (go_quiet (first | (go_at_call 16; (with_reducible refine (impl_CompleteWord.calls k3 t393 t411 t412 _ A59.out).mono ?_); rintro e w104 ⟨rfl, hb⟩; have n0_ := Aside0.mk (Kd.R_below (by (with_reducible repeat (first | apply Kd.R_alloc | apply Kd.R_drewN | apply Kd.R_drew)); exact HO_10.out) hb); have n1_ := Aside0.mk (Kd.R_below (by (with_reducible repeat (first | apply Kd.R_alloc | apply Kd.R_drewN | apply Kd.R_drew)); exact HO_12.out) hb); have n2_ := Aside0.mk (below_step (by repeat (first | (with_reducible first | exact HB.out | apply below_alloc | apply pw_below_drewN | apply below_drew1) | exact HB.out)) hb); clear HO_10; clear HO_12; clear HB; have HO_10 := n0_; have HO_12 := n1_; have HB := n2_; clear n0_ n1_ n2_; (try clear hb); (try clear hb2); (try clear hk); (try clear hi)) | (go_at_call 17; (with_reducible refine (impl_IsMatched.calls k3 t411 t413 t414 _ A60.out).mono ?_); rintro e w105 ⟨rfl, hb⟩; have n0_ := Aside0.mk (Kd.R_below (by (with_reducible repeat (first | apply Kd.R_alloc | apply Kd.R_drewN | apply Kd.R_drew)); exact HO_10.out) hb); have n1_ := Aside0.mk (Kd.R_below (by (with_reducible repeat (first | apply Kd.R_alloc | apply Kd.R_drewN | apply Kd.R_drew)); exact HO_12.out) hb); have n2_ := Aside0.mk (below_step (by repeat (first | (with_reducible first | exact HB.out | apply below_alloc | apply pw_below_drewN | apply below_drew1) | exact HB.out)) hb); clear HO_10; clear HO_12; clear HB; have HO_10 := n0_; have HO_12 := n1_; have HB := n2_; clear n0_ n1_ n2_; (try clear hb); (try clear hb2); (try clear hk); (try clear hi)) | (go_at_call 18; (with_reducible refine (impl_PendingOf.calls k3 t393 t415 t416 t417 _ A61.out).mono ?_); rintro e w106 ⟨rfl, hb⟩; have n0_ := Aside0.mk (Kd.R_below (by (with_reducible repeat (first | apply Kd.R_alloc | apply Kd.R_drewN | apply Kd.R_drew)); exact HO_10.out) hb); have n1_ := Aside0.mk (Kd.R_below (by (with_reducible repeat (first | apply Kd.R_alloc | apply Kd.R_drewN | apply Kd.R_drew)); exact HO_12.out) hb); have n2_ := Aside0.mk (below_step (by repeat (first | (with_reducible first | exact HB.out | apply below_alloc | apply pw_below_drewN | apply below_drew1) | exact HB.out)) hb); clear HO_10; clear HO_12; clear HB; have HO_10 := n0_; have HO_12 := n1_; have HB := n2_; clear n0_ n1_ n2_; (try clear hb); (try clear hb2); (try clear hk); (try clear hi)) | (go_at_call 19; (with_reducible refine (impl_JoinWords.calls k3 t393 (((⟨#[91]⟩ : ByteArray) ++ t394) ++ (⟨#[41]⟩ : ByteArray)) t418 t419 _ A62.out).mono ?_); rintro e w' ⟨rfl, ⟨nd, rfl⟩⟩; (try first | exact ⟨rfl, _, World.drewN_drewN _ _ _⟩ | exact ⟨rfl, _, Eq.trans (World.drewN_drewN _ _ _) (congrArg (World.drewN _) (Nat.add_assoc _ _ _))⟩)) | (go_at_call 13; (with_reducible refine (impl_PutAt.calls k3 t393 t395 (⟨#[40]⟩ : ByteArray) t420 t421 _ A63.out).mono ?_); rintro e w107 ⟨rfl, hb⟩; have n0_ := Aside0.mk (Kd.R_below (by (with_reducible repeat (first | apply Kd.R_alloc | apply Kd.R_drewN | apply Kd.R_drew)); exact HO_10.out) hb); have n1_ := Aside0.mk (Kd.R_below (by (with_reducible repeat (first | apply Kd.R_alloc | apply Kd.R_drewN | apply Kd.R_drew)); exact HO_12.out) hb); have n2_ := Aside0.mk (below_step (by repeat (first | (with_reducible first | exact HB.out | apply below_alloc | apply pw_below_drewN | apply below_drew1) | exact HB.out)) hb); clear HO_10; clear HO_12; clear HB; have HO_10 := n0_; have HO_12 := n1_; have HB := n2_; clear n0_ n1_ n2_; (try clear hb); (try clear hb2); (try clear hk); (try clear hi))); try go_wp2_with (first | (go_at_call 16; (with_reducible refine (impl_CompleteWord.calls k3 t393 t411 t412 _ A59.out).mono ?_); rintro e w104 ⟨rfl, hb⟩; have n0_ := Aside0.mk (Kd.R_below (by (with_reducible repeat (first | apply Kd.R_alloc | apply Kd.R_drewN | apply Kd.R_drew)); exact HO_10.out) hb); have n1_ := Aside0.mk (Kd.R_below (by (with_reducible repeat (first | apply Kd.R_alloc | apply Kd.R_drewN | apply Kd.R_drew)); exact HO_12.out) hb); have n2_ := Aside0.mk (below_step (by repeat (first | (with_reducible first | exact HB.out | apply below_alloc | apply pw_below_drewN | apply below_drew1) | exact HB.out)) hb); clear HO_10; clear HO_12; clear HB; have HO_10 := n0_; have HO_12 := n1_; have HB := n2_; clear n0_ n1_ n2_; (try clear hb); (try clear hb2); (try clear hk); (try clear hi)) | (go_at_call 17; (with_reducible refine (impl_IsMatched.calls k3 t411 t413 t414 _ A60.out).mono ?_); rintro e w105 ⟨rfl, hb⟩; have n0_ := Aside0.mk (Kd.R_below (by (with_reducible repeat (first | apply Kd.R_alloc | apply Kd.R_drewN | apply Kd.R_drew)); exact HO_10.out) hb); have n1_ := Aside0.mk (Kd.R_below (by (with_reducible repeat (first | apply Kd.R_alloc | apply Kd.R_drewN | apply Kd.R_drew)); exact HO_12.out) hb); have n2_ := Aside0.mk (below_step (by repeat (first | (with_reducible first | exact HB.out | apply below_alloc | apply pw_below_drewN | apply below_drew1) | exact HB.out)) hb); clear HO_10; clear HO_12; clear HB; have HO_10 := n0_; have HO_12 := n1_; have HB := n2_; clear n0_ n1_ n2_; (try clear hb); (try clear hb2); (try clear hk); (try clear hi)) | (go_at_call 18; (with_reducible refine (impl_PendingOf.calls k3 t393 t415 t416 t417 _ A61.out).mono ?_); rintro e w106 ⟨rfl, hb⟩; have n0_ := Aside0.mk (Kd.R_below (by (with_reducible repeat (first | apply Kd.R_alloc | apply Kd.R_drewN | apply Kd.R_drew)); exact HO_10.out) hb); have n1_ := Aside0.mk (Kd.R_below (by (with_reducible repeat (first | apply Kd.R_alloc | apply Kd.R_drewN | apply Kd.R_drew)); exact HO_12.out) hb); have n2_ := Aside0.mk (below_step (by repeat (first | (with_reducible first | exact HB.out | apply below_alloc | apply pw_below_drewN | apply below_drew1) | exact HB.out)) hb); clear HO_10; clear HO_12; clear HB; have HO_10 := n0_; have HO_12 := n1_; have HB := n2_; clear n0_ n1_ n2_; (try clear hb); (try clear hb2); (try clear hk); (try clear hi)) | (go_at_call 19; (with_reducible refine (impl_JoinWords.calls k3 t393 (((⟨#[91]⟩ : ByteArray) ++ t394) ++ (⟨#[41]⟩ : ByteArray)) t418 t419 _ A62.out).mono ?_); rintro e w' ⟨rfl, ⟨nd, rfl⟩⟩; (try first | exact ⟨rfl, _, World.drewN_drewN _ _ _⟩ | exact ⟨rfl, _, Eq.trans (World.drewN_drewN _ _ _) (congrArg (World.drewN _) (Nat.add_assoc _ _ _))⟩)) | (go_at_call 13; (with_reducible refine (impl_PutAt.calls k3 t393 t395 (⟨#[40]⟩ : ByteArray) t420 t421 _ A63.out).mono ?_); rintro e w107 ⟨rfl, hb⟩; have n0_ := Aside0.mk (Kd.R_below (by (with_reducible repeat (first | apply Kd.R_alloc | apply Kd.R_drewN | apply Kd.R_drew)); exact HO_10.out) hb); have n1_ := Aside0.mk (Kd.R_below (by (with_reducible repeat (first | apply Kd.R_alloc | apply Kd.R_drewN | apply Kd.R_drew)); exact HO_12.out) hb); have n2_ := Aside0.mk (below_step (by repeat (first | (with_reducible first | exact HB.out | apply below_alloc | apply pw_below_drewN | apply below_drew1) | exact HB.out)) hb); clear HO_10; clear HO_12; clear HB; have HO_10 := n0_; have HO_12 := n1_; have HB := n2_; clear n0_ n1_ n2_; (try clear hb); (try clear hb2); (try clear hk); (try clear hi))))
               go_ret
               exact ⟨by first | rfl | (simp [errW_none, errW_some] <;> rfl) | (simp [*, errW_none, errW_some] <;> rfl), by repeat (first | (with_reducible first | exact HB.out | apply below_alloc | apply pw_below_drewN | apply below_drew1) | exact HB.out)⟩
             ·rw [if_neg c64] at H
              have c64b0 : (t412 == 0) = false := beq_eq_false_iff_ne.mpr c64
              have c64b1 : (t412 != 0) = true := bne_iff_ne.mpr c64
              obtain rfl := Option.some.inj H
              go_wp2_with (first | (go_at_call 16; (with_reducible refine (impl_CompleteWord.calls k3 t393 t411 t412 _ A59.out).mono ?_); rintro e w108 ⟨rfl, hb⟩; have n0_ := Aside0.mk (Kd.R_below (by (with_reducible repeat (first | apply Kd.R_alloc | apply Kd.R_drewN | apply Kd.R_drew)); exact HO_10.out) hb); have n1_ := Aside0.mk (Kd.R_below (by (with_reducible repeat (first | apply Kd.R_alloc | apply Kd.R_drewN | apply Kd.R_drew)); exact HO_12.out) hb); have n2_ := Aside0.mk (below_step (by repeat (first | (with_reducible first | exact HB.out | apply below_alloc | apply pw_below_drewN | apply below_drew1) | exact HB.out)) hb); clear HO_10; clear HO_12; clear HB; have HO_10 := n0_; have HO_12 := n1_; have HB := n2_; clear n0_ n1_ n2_; (try clear hb); (try clear hb2); (try clear hk); (try clear hi)) | (go_at_call 17; (with_reducible refine (impl_IsMatched.calls k3 t411 t413 t414 _ A60.out).mono ?_); rintro e w109 ⟨rfl, hb⟩; have n0_ := Aside0.mk (Kd.R_below (by (with_reducible repeat (first | apply Kd.R_alloc | apply Kd.R_drewN | apply Kd.R_drew)); exact HO_10.out) hb); have n1_ := Aside0.mk (Kd.R_below (by (with_reducible repeat (first | apply Kd.R_alloc | apply Kd.R_drewN | apply Kd.R_drew)); exact HO_12.out) hb); have n2_ := Aside0.mk (below_step (by repeat (first | (with_reducible first | exact HB.out | apply below_alloc | apply pw_below_drewN | apply below_drew1) | exact HB.out)) hb); clear HO_10; clear HO_12; clear HB; have HO_10 := n0_; have HO_12 := n1_; have HB := n2_; clear n0_ n1_ n2_; (try clear hb); (try clear hb2); (try clear hk); (try clear hi)) | (go_at_call 18; (with_reducible refine (impl_PendingOf.calls k3 t393 t415 t416 t417 _ A61.out).mono ?_); rintro e w110 ⟨rfl, hb⟩; have n0_ := Aside0.mk (Kd.R_below (by (with_reducible repeat (first | apply Kd.R_alloc | apply Kd.R_drewN | apply Kd.R_drew)); exact HO_10.out) hb); have n1_ := Aside0.mk (Kd.R_below (by (with_reducible repeat (first | apply Kd.R_alloc | apply Kd.R_drewN | apply Kd.R_drew)); exact HO_12.out) hb); have n2_ := Aside0.mk (below_step (by repeat (first | (with_reducible first | exact HB.out | apply below_alloc | apply pw_below_drewN | apply below_drew1) | exact HB.out)) hb); clear HO_10; clear HO_12; clear HB; have HO_10 := n0_; have HO_12 := n1_; have HB := n2_; clear n0_ n1_ n2_; (try clear hb); (try clear hb2); (try clear hk); (try clear hi)) | (go_at_call 19; (with_reducible refine (impl_JoinWords.calls k3 t393 (((⟨#[91]⟩ : ByteArray) ++ t394) ++ (⟨#[41]⟩ : ByteArray)) t418 t419 _ A62.out).mono ?_); rintro e w' ⟨rfl, ⟨nd, rfl⟩⟩; (try first | exact ⟨rfl, _, World.drewN_drewN _ _ _⟩ | exact ⟨rfl, _, Eq.trans (World.drewN_drewN _ _ _) (congrArg (World.drewN _) (Nat.add_assoc _ _ _))⟩)) | (go_at_call 13; (with_reducible refine (impl_PutAt.calls k3 t393 t395 (⟨#[40]⟩ : ByteArray) t420 t421 _ A63.out).mono ?_); rintro e w111 ⟨rfl, hb⟩; have n0_ := Aside0.mk (Kd.R_below (by (with_reducible repeat (first | apply Kd.R_alloc | apply Kd.R_drewN | apply Kd.R_drew)); exact HO_10.out) hb); have n1_ := Aside0.mk (Kd.R_below (by (with_reducible repeat (first | apply Kd.R_alloc | apply Kd.R_drewN | apply Kd.R_drew)); exact HO_12.out) hb); have n2_ := Aside0.mk (below_step (by repeat (first | (with_reducible first | exact HB.out | apply below_alloc | apply pw_below_drewN | apply below_drew1) | exact HB.out)) hb); clear HO_10; clear HO_12; clear HB; have HO_10 := n0_; have HO_12 := n1_; have HB := n2_; clear n0_ n1_ n2_; (try clear hb); (try clear hb2); (try clear hk); (try clear hi)))
              repeat (go_quiet (first | (go_at_call 16; (with_reducible refine (impl_CompleteWord.calls k3 t393 t411 t412 _ A59.out).mono ?_); rintro e w108 ⟨rfl, hb⟩; have n0_ := Aside0.mk (Kd.R_below (by (with_reducible repeat (first | apply Kd.R_alloc | apply Kd.R_drewN | apply Kd.R_drew)); exact HO_10.out) hb); have n1_ := Aside0.mk (Kd.R_below (by (with_reducible repeat (first | apply Kd.R_alloc | apply Kd.R_drewN | apply Kd.R_drew)); exact HO_12.out) hb); have n2_ := Aside0.mk (below_step (by repeat (first | (with_reducible first | exact HB.out | apply below_alloc | apply pw_below_drewN | apply below_drew1) | exact HB.out)) hb); clear HO_10; clear HO_12; clear HB; have HO_10 := n0_; have HO_12 := n1_; have HB := n2_; clear n0_ n1_ n2_; (try clear hb); (try clear hb2); (try clear hk); (try clear hi)) | (go_at_call 17; (with_reducible refine (impl_IsMatched.calls k3 t411 t413 t414 _ A60.out).mono ?_); rintro e w109 ⟨rfl, hb⟩; have n0_ := Aside0.mk (Kd.R_below (by (with_reducible repeat (first | apply Kd.R_alloc | apply Kd.R_drewN | apply Kd.R_drew)); exact HO_10.out) hb); have n1_ := Aside0.mk (Kd.R_below (by (with_reducible repeat (first | apply Kd.R_alloc | apply Kd.R_drewN | apply Kd.R_drew)); exact HO_12.out) hb); have n2_ := Aside0.mk (below_step (by repeat (first | (with_reducible first | exact HB.out | apply below_alloc | apply pw_below_drewN | apply below_drew1) | exact HB.out)) hb); clear HO_10; clear HO_12; clear HB; have HO_10 := n0_; have HO_12 := n1_; have HB := n2_; clear n0_ n1_ n2_; (try clear hb); (try clear hb2); (try clear hk); (try clear hi)) | (go_at_call 18; (with_reducible refine (impl_PendingOf.calls k3 t393 t415 t416 t417 _ A61.out).mono ?_); rintro e w110 ⟨rfl, hb⟩; have n0_ := Aside0.mk (Kd.R_below (by (with_reducible repeat (first | apply Kd.R_alloc | apply Kd.R_drewN | apply Kd.R_drew)); exact HO_10.out) hb); have n1_ := Aside0.mk (Kd.R_below (by (with_reducible repeat (first | apply Kd.R_alloc | apply Kd.R_drewN | apply Kd.R_drew)); exact HO_12.out) hb); have n2_ := Aside0.mk (below_step (by repeat (first | (with_reducible first | exact HB.out | apply below_alloc | apply pw_below_drewN | apply below_drew1) | exact HB.out)) hb); clear HO_10; clear HO_12; clear HB; have HO_10 := n0_; have HO_12 := n1_; have HB := n2_; clear n0_ n1_ n2_; (try clear hb); (try clear hb2); (try clear hk); (try clear hi)) | (go_at_call 19; (with_reducible refine (impl_JoinWords.calls k3 t393 (((⟨#[91]⟩ : ByteArray) ++ t394) ++ (⟨#[41]⟩ : ByteArray)) t418 t419 _ A62.out).mono ?_); rintro e w' ⟨rfl, ⟨nd, rfl⟩⟩; (try first | exact ⟨rfl, _, World.drewN_drewN _ _ _⟩ | exact ⟨rfl, _, Eq.trans (World.drewN_drewN _ _ _) (congrArg (World.drewN _) (Nat.add_assoc _ _ _))⟩)) | (go_at_call 13; (with_reducible refine (impl_PutAt.calls k3 t393 t395 (⟨#[40]⟩ : ByteArray) t420 t421 _ A63.out).mono ?_); rintro e w111 ⟨rfl, hb⟩; have n0_ := Aside0.mk (Kd.R_below (by (with_reducible repeat (first | apply Kd.R_alloc | apply Kd.R_drewN | apply Kd.R_drew)); exact HO_10.out) hb); have n1_ := Aside0.mk (Kd.R_below (by (with_reducible repeat (first | apply Kd.R_alloc | apply Kd.R_drewN | apply Kd.R_drew)); exact HO_12.out) hb); have n2_ := Aside0.mk (below_step (by repeat (first | (with_reducible first | exact HB.out | apply below_alloc | apply pw_below_drewN | apply below_drew1) | exact HB.out)) hb); clear HO_10; clear HO_12; clear HB; have HO_10 := n0_; have HO_12 := n1_; have HB := n2_; clear n0_ n1_ n2_; (try clear hb); (try clear hb2); (try clear hk); (try clear hi))); try go_wp2_with (first | (go_at_call 16; (with_reducible refine (impl_CompleteWord.calls k3 t393 t411 t412 _ A59.out).mono ?_); rintro e w108 ⟨rfl, hb⟩; have n0_ := Aside0.mk (Kd.R_below (by (with_reducible repeat (first | apply Kd.R_alloc | apply Kd.R_drewN | apply Kd.R_drew)); exact HO_10.out) hb); have n1_ := Aside0.mk (Kd.R_below (by (with_reducible repeat (first | apply Kd.R_alloc | apply Kd.R_drewN | apply Kd.R_drew)); exact HO_12.out) hb); have n2_ := Aside0.mk (below_step (by repeat (first | (with_reducible first | exact HB.out | apply below_alloc | apply pw_below_drewN | apply below_drew1) | exact HB.out)) hb); clear HO_10; clear HO_12; clear HB; have HO_10 := n0_; have HO_12 := n1_; have HB := n2_; clear n0_ n1_ n2_; (try clear hb); (try clear hb2); (try clear hk); (try clear hi)) | (go_at_call 17; (with_reducible refine (impl_IsMatched.calls k3 t411 t413 t414 _ A60.out).mono ?_); rintro e w109 ⟨rfl, hb⟩; have n0_ := Aside0.mk (Kd.R_below (by (with_reducible repeat (first | apply Kd.R_alloc | apply Kd.R_drewN | apply Kd.R_drew)); exact HO_10.out) hb); have n1_ := Aside0.mk (Kd.R_below (by (with_reducible repeat (first | apply Kd.R_alloc | apply Kd.R_drewN | apply Kd.R_drew)); exact HO_12.out) hb); have n2_ := Aside0.mk (below_step (by repeat (first | (with_reducible first | exact HB.out | apply below_alloc | apply pw_below_drewN | apply below_drew1) | exact HB.out)) hb); clear HO_10; clear HO_12; clear HB; have HO_10 := n0_; have HO_12 := n1_; have HB := n2_; clear n0_ n1_ n2_; (try clear hb); (try clear hb2); (try clear hk); (try clear hi)) | (go_at_call 18; (with_reducible refine (impl_PendingOf.calls k3 t393 t415 t416 t417 _ A61.out).mono ?_); rintro e w110 ⟨rfl, hb⟩; have n0_ := Aside0.mk (Kd.R_below (by (with_reducible repeat (first | apply Kd.R_alloc | apply Kd.R_drewN | apply Kd.R_drew)); exact HO_10.out) hb); have n1_ := Aside0.mk (Kd.R_below (by (with_reducible repeat (first | apply Kd.R_alloc | apply Kd.R_drewN | apply Kd.R_drew)); exact HO_12.out) hb); have n2_ := Aside0.mk (below_step (by repeat (first | (with_reducible first | exact HB.out | apply below_alloc | apply pw_below_drewN | apply below_drew1) | exact HB.out)) hb); clear HO_10; clear HO_12; clear HB; have HO_10 := n0_; have HO_12 := n1_; have HB := n2_; clear n0_ n1_ n2_; (try clear hb); (try clear hb2); (try clear hk); (try clear hi)) | (go_at_call 19; (with_reducible refine (impl_JoinWords.calls k3 t393 (((⟨#[91]⟩ : ByteArray) ++ t394) ++ (⟨#[41]⟩ : ByteArray)) t418 t419 _ A62.out).mono ?_); rintro e w' ⟨rfl, ⟨nd, rfl⟩⟩; (try first | exact ⟨rfl, _, World.drewN_drewN _ _ _⟩ | exact ⟨rfl, _, Eq.trans (World.drewN_drewN _ _ _) (congrArg (World.drewN _) (Nat.add_assoc _ _ _))⟩)) | (go_at_call 13; (with_reducible refine (impl_PutAt.calls k3 t393 t395 (⟨#[40]⟩ : ByteArray) t420 t421 _ A63.out).mono ?_); rintro e w111 ⟨rfl, hb⟩; have n0_ := Aside0.mk (Kd.R_below (by (with_reducible repeat (first | apply Kd.R_alloc | apply Kd.R_drewN | apply Kd.R_drew)); exact HO_10.out) hb); have n1_ := Aside0.mk (Kd.R_below (by (with_reducible repeat (first | apply Kd.R_alloc | apply Kd.R_drewN | apply Kd.R_drew)); exact HO_12.out) hb); have n2_ := Aside0.mk (below_step (by repeat (first | (with_reducible first | exact HB.out | apply below_alloc | apply pw_below_drewN | apply below_drew1) | exact HB.out)) hb); clear HO_10; clear HO_12; clear HB; have HO_10 := n0_; have HO_12 := n1_; have HB := n2_; clear n0_ n1_ n2_; (try clear hb); (try clear hb2); (try clear hk); (try clear hi))))
              go_ret
              exact ⟨by first | rfl | (simp [errW_none, errW_some] <;> rfl) | (simp [*, errW_none, errW_some] <;> rfl), by repeat (first | (with_reducible first | exact HB.out | apply below_alloc | apply pw_below_drewN | apply below_drew1) | exact HB.out)⟩
   ·rw [if_neg c8] at H
    exact absurd H (by simp)
  ·rw [if_neg c7] at H
   exact absurd H (by simp)
def laws_FnPutAndCut.Pure : Prop := ∀ (l0 : List Int) (l1 : List Int), l0.length ≤ maxLen → l0.length * 1 ≤ 140737488351232 → (∀ x ∈ l0, (Lit.int .u8 x).wf = true) → l1.length ≤ maxLen → l1.length * 1 ≤ 140737488351232 → (∀ x ∈ l1, (Lit.int .u8 x).wf = true) → ∃ k, laws_FnPutAndCut.f k l0 l1 = some true
theorem laws_FnPutAndCut.walk (P : laws_FnPutAndCut.Pure) (a0 : Option Addr) (len0 cap0 : Nat) (z0 : List Int) (a1 : Option Addr) (len1 cap1 : Nat) (z1 : List Int) (w : World) (w0 : (a0 = none ∧ len0 = 0 ∧ cap0 = 0 ∧ z0 = []) ∨ ∃ x, a0 = some x ∧ len0 ≤ cap0 ∧ cap0 ≤ maxLen ∧ z0.length = cap0 ∧ (∀ i, i < z0.length → w.cell? (x.add i) = some (.int .u8 (z0.getD i 0))) ∧ ∀ n ∈ z0, (Lit.int .u8 n).wf = true) (y0 : len0 * 1 ≤ 140737488351232) (w1 : (a1 = none ∧ len1 = 0 ∧ cap1 = 0 ∧ z1 = []) ∨ ∃ x, a1 = some x ∧ len1 ≤ cap1 ∧ cap1 ≤ maxLen ∧ z1.length = cap1 ∧ (∀ i, i < z1.length → w.cell? (x.add i) = some (.int .u8 (z1.getD i 0))) ∧ ∀ n ∈ z1, (Lit.int .u8 n).wf = true) (y1 : len1 * 1 ≤ 140737488351232) :
  Calls Try.prog 3 #[.slice a0 len0 cap0, .slice a1 len1 cap1] w fun e w' => e = .returned (.bool true) ∧ Below w.heap.size w w' := by
 obtain ⟨l0, rfl, hr0, hm0, hw0, hc0⟩ := ReadsInt.ofRowC w0
 obtain ⟨l1, rfl, hr1, hm1, hw1, hc1⟩ := ReadsInt.ofRowC w1
 obtain ⟨k, h⟩ := P l0 l1 hm0 y0 hw0 hm1 y1 hw1
 refine (laws_FnPutAndCut.calls k _ _ l0 _ _ l1 true w (Kd.C_of_reads (d := (0 : Int)) (h1 := fun _ => rfl) hr0) hc0 (Kd.C_of_reads (d := (0 : Int)) (h1 := fun _ => rfl) hr1) hc1 h).mono ?_
 rintro e w' ⟨rfl, hd⟩
 exact ⟨rfl, hd⟩
end Go.Proofs.Ytolmmfcofbhagaa.PC
