/- Machine side of the laws of this seat: for each Go function that they reach, a Lean function and the proof that a call comes to just its answer. Written by a program of this session. -/
import Derived.Test.YthcnfaonafndoaaPs0
import Derived.Test.YthcnfaonafndoaaPs9
import Derived.Test.YthcnfaonafndoaaPs11
import Derived.Test.YthcnfaonafndoaaPs12
import Derived.Test.YthcnfaonafndoaaPs15
import Derived.Test.YthcnfaonafndoaaPs20
import Derived.Test.YthcnfaonafndoaaPs25
import Derived.Test.YthcnfaonafndoaaPs29
import Derived.Test.YthcnfaonafndoaaPs31
import Derived.Test.YthcnfaonafndoaaPs35
namespace Go.Proofs.Ythcnfaonafndoaa.S
open Go.RowKit Go.Proofs.YthcnfaonafndoaaW.PrintWords Go.Proofs.YthcnfaonafndoaaW.PrintLast Go.Proofs.YthcnfaonafndoaaW.PrintMore
attribute [local go_sem] max2_int min2_int max_two min_two max_three min_three max_four min_four
set_option linter.unusedVariables false
set_option linter.unusedSimpArgs false
mutual
def laws_FnExactStartWatcher.j0 : Nat → Int → Int → Bool → List (S63) → List (S66) → Int → List Int → List (List Int) → List (S66) → List (S66) → Int → List Int → List (List Int) → Option (Bool)
 | 0, _, _, _, _, _, _, _, _, _, _, _, _, _ => none
 | k + 1, x5, x8, x40, x213000, x229000, x229001, x229002, x229003, x233000, x245000, x245001, x245002, x245003 => if x40 = true then (some false) else ((laws_toQuery.f k x213000).bind fun t246 => ((laws_eqQuery.f k x233000 t246).bind fun t249 => (if t249 = true then ((laws_markQuery.f k x233000 1).bind fun bt250 => (if bt250.1 < 0 then (laws_FnExactStartWatcher.j1 k x5 true x213000 x229000 x229001 x229002 x229003 x245000 x245001 x245002 x245003) else ((laws_eqWatcher.f k x245000 x245001 x245002 x245003 x229000 x229001 x229002 x229003).bind fun t252 => (if t252 = true then (laws_FnExactStartWatcher.j1 k x5 (x8 != x5) x213000 x229000 x229001 x229002 x229003 x245000 x245001 x245002 x245003) else (laws_FnExactStartWatcher.j1 k x5 true x213000 x229000 x229001 x229002 x229003 x245000 x245001 x245002 x245003))))) else (some false))))
def laws_FnExactStartWatcher.j1 : Nat → Int → Bool → List (S63) → List (S66) → Int → List Int → List (List Int) → List (S66) → Int → List Int → List (List Int) → Option (Bool)
 | 0, _, _, _, _, _, _, _, _, _, _, _ => none
 | k + 1, x5, x61, x213000, x229000, x229001, x229002, x229003, x245000, x245001, x245002, x245003 => if x61 = true then (some false) else ((laws_markWatcher.f k x245000 x245001 x245002 x245003 1).bind fun bt253 => ((laws_heldWatcher.f k bt253.2.1 x245001 bt253.2.2 x245003 1).bind fun t256 => (if t256 < 0 then (some false) else (if t256 = bt253.1 then ((laws_toQuery.f k x213000).bind fun t257 => ((impl_StartWatcher.f k t257).bind fun bt260 => ((laws_eqWatcher.f k bt260.1 bt260.2.1 bt260.2.2.1 bt260.2.2.2.1 x229000 x229001 x229002 x229003).bind fun t272 => (if t272 = true then (laws_FnExactStartWatcher.j2 k bt253.1 (bt260.2.2.2.2 != x5) bt253.2.1 x245001 bt253.2.2 x245003) else (laws_FnExactStartWatcher.j2 k bt253.1 true bt253.2.1 x245001 bt253.2.2 x245003))))) else (some false)))))
def laws_FnExactStartWatcher.j2 : Nat → Int → Bool → List (S66) → Int → List Int → List (List Int) → Option (Bool)
 | 0, _, _, _, _, _, _ => none
 | k + 1, x10, x87, x245000, x245001, x245002, x245003 => if x87 = true then (some false) else ((laws_heldWatcher.f k x245000 x245001 x245002 x245003 1).bind fun t273 => (if t273 < 0 then (some false) else (if t273 = x10 then (some true) else (some false))))
end
def laws_FnExactStartWatcher.f (k : Nat) (l0_0 : List (S63)) : Option (Bool) := (laws_szQuery.f k l0_0 1048576).bind fun t213 => (if t213 < 0 then (some true) else ((laws_toQuery.f k l0_0).bind fun t214 => ((spec_StartWatcher.f k t214).bind fun bt217 => ((laws_toQuery.f k l0_0).bind fun t229 => ((impl_StartWatcher.f k t229).bind fun bt233 => ((laws_eqWatcher.f k bt233.1 bt233.2.1 bt233.2.2.1 bt233.2.2.2.1 bt217.1 bt217.2.1 bt217.2.2.1 bt217.2.2.2.1).bind fun t245 => (if t245 = true then (laws_FnExactStartWatcher.j0 k bt217.2.2.2.2 bt233.2.2.2.2 (bt233.2.2.2.2 != bt217.2.2.2.2) l0_0 bt217.1 bt217.2.1 bt217.2.2.1 bt217.2.2.2.1 t229 bt233.1 bt233.2.1 bt233.2.2.1 bt233.2.2.2.1) else (laws_FnExactStartWatcher.j0 k bt217.2.2.2.2 bt233.2.2.2.2 true l0_0 bt217.1 bt217.2.1 bt217.2.2.1 bt217.2.2.2.1 t229 bt233.1 bt233.2.1 bt233.2.2.1 bt233.2.2.2.1))))))))
theorem laws_FnExactStartWatcher.mono_l : ∀ k, (∀ y0 y1 y2 y3 y4 y5 y6 y7 y8 y9 y10 y11 y12, LeO (laws_FnExactStartWatcher.j0 k y0 y1 y2 y3 y4 y5 y6 y7 y8 y9 y10 y11 y12) (laws_FnExactStartWatcher.j0 (k + 1) y0 y1 y2 y3 y4 y5 y6 y7 y8 y9 y10 y11 y12)) ∧ (∀ y0 y1 y2 y3 y4 y5 y6 y7 y8 y9 y10, LeO (laws_FnExactStartWatcher.j1 k y0 y1 y2 y3 y4 y5 y6 y7 y8 y9 y10) (laws_FnExactStartWatcher.j1 (k + 1) y0 y1 y2 y3 y4 y5 y6 y7 y8 y9 y10)) ∧ (∀ y0 y1 y2 y3 y4 y5, LeO (laws_FnExactStartWatcher.j2 k y0 y1 y2 y3 y4 y5) (laws_FnExactStartWatcher.j2 (k + 1) y0 y1 y2 y3 y4 y5))
 | 0 => ⟨fun _ _ _ _ _ _ _ _ _ _ _ _ _ r h => by simp [laws_FnExactStartWatcher.j0] at h, fun _ _ _ _ _ _ _ _ _ _ _ r h => by simp [laws_FnExactStartWatcher.j1] at h, fun _ _ _ _ _ _ r h => by simp [laws_FnExactStartWatcher.j2] at h⟩
 | k + 1 => by
  obtain ⟨ih0, ih1, ih2⟩ := laws_FnExactStartWatcher.mono_l k
  refine ⟨?_, ?_, ?_⟩
  ·intro y0 y1 y2 y3 y4 y5 y6 y7 y8 y9 y10 y11 y12
   unfold laws_FnExactStartWatcher.j0
   repeat' first
   | (with_reducible exact ih0 _ _ _ _ _ _ _ _ _ _ _ _ _)
   | (with_reducible exact ih1 _ _ _ _ _ _ _ _ _ _ _)
   | (with_reducible exact ih2 _ _ _ _ _ _)
   | (with_reducible exact impl_StartWatcher.mono _ _)
   | (with_reducible exact laws_eqQuery.mono _ _ _)
   | (with_reducible exact laws_eqWatcher.mono _ _ _ _ _ _ _ _ _)
   | (with_reducible exact laws_heldWatcher.mono _ _ _ _ _ _)
   | (with_reducible exact laws_markQuery.mono _ _ _)
   | (with_reducible exact laws_markWatcher.mono _ _ _ _ _ _)
   | (with_reducible exact laws_szQuery.mono _ _ _)
   | (with_reducible exact laws_toQuery.mono _ _)
   | (with_reducible exact spec_StartWatcher.mono _ _)
   | (with_reducible exact LeO.refl _)
   | (with_reducible exact LeO.none _)
   | (with_reducible refine LeO.ite ?_ ?_)
   | (with_reducible refine LeO.bind ?_ (fun _ => ?_))
   | exact ih0 _ _ _ _ _ _ _ _ _ _ _ _ _
   | exact ih1 _ _ _ _ _ _ _ _ _ _ _
   | exact ih2 _ _ _ _ _ _
   | exact impl_StartWatcher.mono _ _
   | exact laws_eqQuery.mono _ _ _
   | exact laws_eqWatcher.mono _ _ _ _ _ _ _ _ _
   | exact laws_heldWatcher.mono _ _ _ _ _ _
   | exact laws_markQuery.mono _ _ _
   | exact laws_markWatcher.mono _ _ _ _ _ _
   | exact laws_szQuery.mono _ _ _
   | exact laws_toQuery.mono _ _
   | exact spec_StartWatcher.mono _ _
   | exact LeO.none _
   | refine LeO.ite ?_ ?_
   | refine LeO.bind ?_ (fun _ => ?_)
  ·intro y0 y1 y2 y3 y4 y5 y6 y7 y8 y9 y10
   unfold laws_FnExactStartWatcher.j1
   repeat' first
   | (with_reducible exact ih0 _ _ _ _ _ _ _ _ _ _ _ _ _)
   | (with_reducible exact ih1 _ _ _ _ _ _ _ _ _ _ _)
   | (with_reducible exact ih2 _ _ _ _ _ _)
   | (with_reducible exact impl_StartWatcher.mono _ _)
   | (with_reducible exact laws_eqQuery.mono _ _ _)
   | (with_reducible exact laws_eqWatcher.mono _ _ _ _ _ _ _ _ _)
   | (with_reducible exact laws_heldWatcher.mono _ _ _ _ _ _)
   | (with_reducible exact laws_markQuery.mono _ _ _)
   | (with_reducible exact laws_markWatcher.mono _ _ _ _ _ _)
   | (with_reducible exact laws_szQuery.mono _ _ _)
   | (with_reducible exact laws_toQuery.mono _ _)
   | (with_reducible exact spec_StartWatcher.mono _ _)
   | (with_reducible exact LeO.refl _)
   | (with_reducible exact LeO.none _)
   | (with_reducible refine LeO.ite ?_ ?_)
   | (with_reducible refine LeO.bind ?_ (fun _ => ?_))
   | exact ih0 _ _ _ _ _ _ _ _ _ _ _ _ _
   | exact ih1 _ _ _ _ _ _ _ _ _ _ _
   | exact ih2 _ _ _ _ _ _
   | exact impl_StartWatcher.mono _ _
   | exact laws_eqQuery.mono _ _ _
   | exact laws_eqWatcher.mono _ _ _ _ _ _ _ _ _
   | exact laws_heldWatcher.mono _ _ _ _ _ _
   | exact laws_markQuery.mono _ _ _
   | exact laws_markWatcher.mono _ _ _ _ _ _
   | exact laws_szQuery.mono _ _ _
   | exact laws_toQuery.mono _ _
   | exact spec_StartWatcher.mono _ _
   | exact LeO.none _
   | refine LeO.ite ?_ ?_
   | refine LeO.bind ?_ (fun _ => ?_)
  ·intro y0 y1 y2 y3 y4 y5
   unfold laws_FnExactStartWatcher.j2
   repeat' first
   | (with_reducible exact ih0 _ _ _ _ _ _ _ _ _ _ _ _ _)
   | (with_reducible exact ih1 _ _ _ _ _ _ _ _ _ _ _)
   | (with_reducible exact ih2 _ _ _ _ _ _)
   | (with_reducible exact impl_StartWatcher.mono _ _)
   | (with_reducible exact laws_eqQuery.mono _ _ _)
   | (with_reducible exact laws_eqWatcher.mono _ _ _ _ _ _ _ _ _)
   | (with_reducible exact laws_heldWatcher.mono _ _ _ _ _ _)
   | (with_reducible exact laws_markQuery.mono _ _ _)
   | (with_reducible exact laws_markWatcher.mono _ _ _ _ _ _)
   | (with_reducible exact laws_szQuery.mono _ _ _)
   | (with_reducible exact laws_toQuery.mono _ _)
   | (with_reducible exact spec_StartWatcher.mono _ _)
   | (with_reducible exact LeO.refl _)
   | (with_reducible exact LeO.none _)
   | (with_reducible refine LeO.ite ?_ ?_)
   | (with_reducible refine LeO.bind ?_ (fun _ => ?_))
   | exact ih0 _ _ _ _ _ _ _ _ _ _ _ _ _
   | exact ih1 _ _ _ _ _ _ _ _ _ _ _
   | exact ih2 _ _ _ _ _ _
   | exact impl_StartWatcher.mono _ _
   | exact laws_eqQuery.mono _ _ _
   | exact laws_eqWatcher.mono _ _ _ _ _ _ _ _ _
   | exact laws_heldWatcher.mono _ _ _ _ _ _
   | exact laws_markQuery.mono _ _ _
   | exact laws_markWatcher.mono _ _ _ _ _ _
   | exact laws_szQuery.mono _ _ _
   | exact laws_toQuery.mono _ _
   | exact spec_StartWatcher.mono _ _
   | exact LeO.none _
   | refine LeO.ite ?_ ?_
   | refine LeO.bind ?_ (fun _ => ?_)
theorem laws_FnExactStartWatcher.mono : ∀ a0 k, LeO (laws_FnExactStartWatcher.f k a0) (laws_FnExactStartWatcher.f (k + 1) a0) := by
 intro a0 k
 obtain ⟨ih0, ih1, ih2⟩ := laws_FnExactStartWatcher.mono_l k
 unfold laws_FnExactStartWatcher.f
 repeat' first
   | (with_reducible exact ih0 _ _ _ _ _ _ _ _ _ _ _ _ _)
   | (with_reducible exact ih1 _ _ _ _ _ _ _ _ _ _ _)
   | (with_reducible exact ih2 _ _ _ _ _ _)
   | (with_reducible exact impl_StartWatcher.mono _ _)
   | (with_reducible exact laws_eqQuery.mono _ _ _)
   | (with_reducible exact laws_eqWatcher.mono _ _ _ _ _ _ _ _ _)
   | (with_reducible exact laws_heldWatcher.mono _ _ _ _ _ _)
   | (with_reducible exact laws_markQuery.mono _ _ _)
   | (with_reducible exact laws_markWatcher.mono _ _ _ _ _ _)
   | (with_reducible exact laws_szQuery.mono _ _ _)
   | (with_reducible exact laws_toQuery.mono _ _)
   | (with_reducible exact spec_StartWatcher.mono _ _)
   | (with_reducible exact LeO.refl _)
   | (with_reducible exact LeO.none _)
   | (with_reducible refine LeO.ite ?_ ?_)
   | (with_reducible refine LeO.bind ?_ (fun _ => ?_))
   | exact ih0 _ _ _ _ _ _ _ _ _ _ _ _ _
   | exact ih1 _ _ _ _ _ _ _ _ _ _ _
   | exact ih2 _ _ _ _ _ _
   | exact impl_StartWatcher.mono _ _
   | exact laws_eqQuery.mono _ _ _
   | exact laws_eqWatcher.mono _ _ _ _ _ _ _ _ _
   | exact laws_heldWatcher.mono _ _ _ _ _ _
   | exact laws_markQuery.mono _ _ _
   | exact laws_markWatcher.mono _ _ _ _ _ _
   | exact laws_szQuery.mono _ _ _
   | exact laws_toQuery.mono _ _
   | exact spec_StartWatcher.mono _ _
   | exact LeO.none _
   | refine LeO.ite ?_ ?_
   | refine LeO.bind ?_ (fun _ => ?_)
def laws_FnExactStartWatcher.Pure : Prop := ∀ (l0_0 : List (S63)), (l0_0.length ≤ maxLen ∧ ∀ x0 ∈ l0_0, (True ∧ x0.f1.size ≤ maxLen)) → ∃ k, laws_FnExactStartWatcher.f k l0_0 = some true
end Go.Proofs.Ythcnfaonafndoaa.S
