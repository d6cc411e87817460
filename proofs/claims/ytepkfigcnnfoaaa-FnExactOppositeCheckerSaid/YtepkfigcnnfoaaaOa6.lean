/- Texts that this law leans on, several in one; written by programs of these sessions (print, wip/deep, gather.py). -/
import Derived.Test.YtepkfigcnnfoaaaOa5
import Derived.Test.YtepkfigcnnfoaaaRows
import Derived.WalkKit
import Derived.ProofKit
import Derived.OpenShut
import Derived.ShutString
import Derived.ChangeOld
import Derived.Below
import Derived.SizedLaws
import Derived.Deep.Slices
import Derived.ChangeArms
import Derived.DataReads
namespace Go.Proofs.Ytepkfigcnnfoaaa.fnExactOppositeChecker
open Go.ChangeShapes Go.WideShapes Go.ChangeAt Go.RowKit Go.Proofs.YtepkfigcnnfoaaaW.PrintWords Go.Proofs.YtepkfigcnnfoaaaW.PrintLast Go.Proofs.Ytepkfigcnnfoaaa.P
open Go.ChangeMaps (open_string shut_string)
set_option linter.unusedVariables false
def Of (P : Program) (t : TypeId) {α : Type} (d : Kd α) (ok : α → Prop) : Prop :=
 ∀ (H : Type) (enc : TypeId × Value → H) (W : World) (n : Nat) (cs : List Value) (x : DataW H × List MemPlace), DataW.trod enc P W 0 (fun _ => true) true n t cs = some x → ∃ v, d.K W v cs ∧ ok v
def OfFs (P : Program) (off : Nat) (fs : List Field) {α : Type} (d : Kd α) (ok : α → Prop) : Prop :=
 ∀ (H : Type) (enc : TypeId × Value → H) (W : World) (n : Nat) (cs : List Value), cs.length = off + d.sz →
  (∀ f ∈ fs, ∃ y, DataW.trod enc P W 0 (fun _ => true) true n f.type ((cs.drop f.offset).take (P.cellsOf f.type)) = some y) → ∃ v, d.K W v (cs.drop off) ∧ ok v
section
variable {P : Program} {t : TypeId}
theorem of_int {k : IntKind} (ht : P.underlying t = some (.int k)) : Of P t (Kd.int k) (fun n => (Lit.int k n).wf = true) := by
 intro H enc W n cs x h
 obtain ⟨v, rfl, _, hw⟩ := DataW.trod_int ht h
 exact ⟨v, rfl, hw⟩
theorem of_bool (ht : P.underlying t = some .bool) : Of P t Kd.bool (fun _ => True) := by
 intro H enc W n cs x h
 obtain ⟨v, rfl, _⟩ := DataW.trod_bool ht h
 exact ⟨v, rfl, trivial⟩
theorem of_iso {α β : Type} {d : Kd α} {f : β → α} {ok : α → Prop} (h : Of P t d ok) (g : α → β) (hg : ∀ y, f (g y) = y) : Of P t (Kd.iso d f) (fun x => ok (f x)) := by
 intro H enc W n cs x hx
 obtain ⟨v, hK, ho⟩ := h H enc W n cs x hx
 exact ⟨g v, by show d.K W (f (g v)) cs; rw [hg]; exact hK, by show ok (f (g v)); rw [hg]; exact ho⟩
theorem of_slice {e : TypeId} {α : Type} {d : Kd α} {ok : α → Prop} (ht : P.underlying t = some (.slice e)) (hC : P.cellsOf e = d.sz) (he : Of P e d ok) :
  Of P t (Kd.slice e d) (fun l => l.length ≤ maxLen ∧ ∀ x ∈ l, ok x) := by
 intro H enc W fuel cs x h
 rcases Go.Deep.open_slice ht h with ⟨rfl, _⟩ | ⟨a, len, cap, m, n, D, Pl, rfl, _, hl, hm, hmm, _, hi⟩
 ·exact ⟨[], ⟨none, 0, rfl, Nat.le_refl _, Kd.C_nil _ _⟩, by simp, by simp⟩
 ·have hle : len ≤ m := by rw [hmm]; simpa using hl
  have key : ∀ q, q ≤ len → ∃ l : List α, l.length = q ∧ ∀ j p, l[j]? = some p → ∃ cs', W.cells? 0 (a.add (j * d.sz)) d.sz = some cs' ∧ d.K W p cs' ∧ ok p := by
   intro q
   induction q with
   | zero => exact fun _ => ⟨[], rfl, fun j p hj => by simp at hj⟩
   | succ q ih =>
    intro hq
    obtain ⟨l, hll, hp⟩ := ih (by omega)
    obtain ⟨cs', h1, h2⟩ := hi q (by omega)
    rw [hC] at h1
    obtain ⟨v, hK, ho⟩ := he H enc W n cs' _ h2
    refine ⟨l ++ [v], by simp [hll], fun j p hj => ?_⟩
    by_cases hjl : j < l.length
    ·rw [List.getElem?_append_left hjl] at hj
     exact hp j p hj
    ·have hj2 : j = l.length := by
      have := (List.getElem?_eq_some_iff.1 hj).1
      simp at this
      omega
     subst hj2
     simp at hj
     subst hj
     exact ⟨cs', by rw [hll]; exact h1, hK, ho⟩
  obtain ⟨l, hll, hp⟩ := key len (Nat.le_refl _)
  have hlm : l.length ≤ maxLen := by rw [hll]; exact Nat.le_trans hl hm
  refine ⟨l, ⟨some a, cap, by rw [hll], by omega, ⟨rfl, hlm, fun _ => ⟨a, rfl, fun j p hj => ?_⟩⟩⟩, hlm, fun p hpm => ?_⟩
  ·obtain ⟨cs', h1, hK, _⟩ := hp j p hj
   obtain ⟨_, hlen, hat⟩ := World.cells?_some h1
   refine ⟨cs', hlen, hK, fun i u hu => ?_⟩
   have hlt : i < d.sz := by rw [← hlen]; exact (List.getElem?_eq_some_iff.1 hu).1
   rw [← Go.Deep.add_add, hat i hlt, hu]
  ·obtain ⟨j, hj⟩ := List.getElem?_of_mem hpm
   obtain ⟨_, _, _, ho⟩ := hp j p hj
   exact ho
theorem fs_one {f : Field} {off : Nat} {α : Type} {d : Kd α} {ok : α → Prop} (ho : f.offset = off) (hC : P.cellsOf f.type = d.sz) (h : Of P f.type d ok) : OfFs P off [f] d ok := by
 intro H enc W n cs hl hf
 obtain ⟨y, hy⟩ := hf f (by simp)
 rw [ho, hC, List.take_of_length_le (by simp; omega)] at hy
 exact h H enc W n _ y hy
theorem fs_more {f : Field} {fs : List Field} {off : Nat} {α β : Type} {d : Kd α} {d2 : Kd β} {ok : α → Prop} {ok2 : β → Prop} (ho : f.offset = off) (hC : P.cellsOf f.type = d.sz) (h : Of P f.type d ok) (h2 : OfFs P (off + d.sz) fs d2 ok2) :
  OfFs P off (f :: fs) (Kd.pair d d2) (fun p => ok p.1 ∧ ok2 p.2) := by
 intro H enc W n cs hl hf
 have hl' : cs.length = off + d.sz + d2.sz := hl.trans (Nat.add_assoc _ _ _).symm
 obtain ⟨y, hy⟩ := hf f (by simp)
 rw [ho, hC] at hy
 obtain ⟨v, hK, hv⟩ := h H enc W n _ y hy
 obtain ⟨v2, hK2, hv2⟩ := h2 H enc W n cs hl' (fun g hg => hf g (List.mem_cons_of_mem _ hg))
 refine ⟨(v, v2), ⟨(cs.drop off).take d.sz, cs.drop (off + d.sz), ?_, hK, hK2⟩, hv, hv2⟩
 rw [← List.drop_drop, List.take_append_drop]
theorem of_struct {fs : Array Field} {α : Type} {d : Kd α} {ok : α → Prop} (ht : P.underlying t = some (.struct fs)) (hC : P.cellsOf t = d.sz) (h : OfFs P 0 fs.toList d ok) : Of P t d ok := by
 intro H enc W fuel cs x hx
 obtain ⟨xs, n, _, _, hlen, hxl, hf⟩ := DataW.trod_struct ht hx
 refine h H enc W n cs (by omega) (fun f hfm => ?_)
 obtain ⟨j, hj⟩ := List.getElem?_of_mem hfm
 have hj2 : fs[j]? = some f := by simpa using hj
 have hlt : j < xs.length := by rw [hxl]; exact (Array.getElem?_eq_some_iff.1 hj2).1
 exact ⟨_, (hf j f hj2).trans (List.getElem?_eq_getElem hlt)⟩
end
theorem own : ownKnob Try.prog.godebug = none := by kernel_rfl
theorem laidOut : laidOutB Try.prog = true := by kernel_rfl
theorem of2 : Of Try.prog 2 (Kd.int .i64) (fun n : Int => (Lit.int .i64 n).wf = true) := of_int Try.underlying2
theorem of4 : Of Try.prog 4 Kd.bool (fun _ : Bool => True) := of_bool Try.underlying4
theorem of22 : Of Try.prog 22 (Kd.slice 4 Kd.bool) (fun l : List Bool => l.length ≤ maxLen ∧ ∀ x ∈ l, (fun _ : Bool => True) x) := of_slice Try.underlying22 (by kernel_rfl) of4
theorem of101 : Of Try.prog 101 k101 (fun x : S101 => (fun p : ((Int) × (Int)) => (fun n : Int => (Lit.int .i64 n).wf = true) p.1 ∧ (fun n : Int => (Lit.int .i64 n).wf = true) p.2) (x.f0, x.f1)) := of_iso (f := fun x : S101 => (x.f0, x.f1)) (of_struct Try.underlying101 (by kernel_rfl) (fs_more (ok := (fun n : Int => (Lit.int .i64 n).wf = true)) (ok2 := (fun n : Int => (Lit.int .i64 n).wf = true)) (by rfl) (by kernel_rfl) of2 (fs_one (by rfl) (by kernel_rfl) of2))) (fun y => ⟨y.1, y.2⟩) (fun _ => rfl)
theorem of88 : Of Try.prog 88 (Kd.slice 101 k101) (fun l : List (S101) => l.length ≤ maxLen ∧ ∀ x ∈ l, (fun x : S101 => (fun p : ((Int) × (Int)) => (fun n : Int => (Lit.int .i64 n).wf = true) p.1 ∧ (fun n : Int => (Lit.int .i64 n).wf = true) p.2) (x.f0, x.f1)) x) := of_slice Try.underlying88 (by kernel_rfl) of101
theorem of37 : Of Try.prog 37 (Kd.slice 88 (Kd.slice 101 k101)) (fun l : List (List (S101)) => l.length ≤ maxLen ∧ ∀ x ∈ l, (fun l : List (S101) => l.length ≤ maxLen ∧ ∀ x ∈ l, (fun x : S101 => (fun p : ((Int) × (Int)) => (fun n : Int => (Lit.int .i64 n).wf = true) p.1 ∧ (fun n : Int => (Lit.int .i64 n).wf = true) p.2) (x.f0, x.f1)) x) x) := of_slice Try.underlying37 (by kernel_rfl) of88
theorem of49 : Of Try.prog 49 (Kd.slice 2 (Kd.int .i64)) (fun l : List Int => l.length ≤ maxLen ∧ ∀ x ∈ l, (fun n : Int => (Lit.int .i64 n).wf = true) x) := of_slice Try.underlying49 (by kernel_rfl) of2
theorem of25 : Of Try.prog 25 (Kd.slice 49 (Kd.slice 2 (Kd.int .i64))) (fun l : List (List Int) => l.length ≤ maxLen ∧ ∀ x ∈ l, (fun l : List Int => l.length ≤ maxLen ∧ ∀ x ∈ l, (fun n : Int => (Lit.int .i64 n).wf = true) x) x) := of_slice Try.underlying25 (by kernel_rfl) of49
theorem of24 : Of Try.prog 24 (Kd.slice 25 (Kd.slice 49 (Kd.slice 2 (Kd.int .i64)))) (fun l : List (List (List Int)) => l.length ≤ maxLen ∧ ∀ x ∈ l, (fun l : List (List Int) => l.length ≤ maxLen ∧ ∀ x ∈ l, (fun l : List Int => l.length ≤ maxLen ∧ ∀ x ∈ l, (fun n : Int => (Lit.int .i64 n).wf = true) x) x) x) := of_slice Try.underlying24 (by kernel_rfl) of25
theorem of39t : Of Try.prog 39 (Kd.pair (Kd.int .i64) (Kd.pair (Kd.int .i64) (Kd.pair (Kd.slice 4 Kd.bool) (Kd.pair (Kd.slice 88 (Kd.slice 101 k101)) (Kd.pair (Kd.slice 25 (Kd.slice 49 (Kd.slice 2 (Kd.int .i64)))) (Kd.slice 49 (Kd.slice 2 (Kd.int .i64)))))))) (fun p : ((Int) × (((Int) × (((List Bool) × (((List (List (S101))) × (((List (List (List Int))) × (List (List Int))))))))))) => (fun n : Int => (Lit.int .i64 n).wf = true) p.1 ∧ (fun p : ((Int) × (((List Bool) × (((List (List (S101))) × (((List (List (List Int))) × (List (List Int))))))))) => (fun n : Int => (Lit.int .i64 n).wf = true) p.1 ∧ (fun p : ((List Bool) × (((List (List (S101))) × (((List (List (List Int))) × (List (List Int))))))) => (fun l : List Bool => l.length ≤ maxLen ∧ ∀ x ∈ l, (fun _ : Bool => True) x) p.1 ∧ (fun p : ((List (List (S101))) × (((List (List (List Int))) × (List (List Int))))) => (fun l : List (List (S101)) => l.length ≤ maxLen ∧ ∀ x ∈ l, (fun l : List (S101) => l.length ≤ maxLen ∧ ∀ x ∈ l, (fun x : S101 => (fun p : ((Int) × (Int)) => (fun n : Int => (Lit.int .i64 n).wf = true) p.1 ∧ (fun n : Int => (Lit.int .i64 n).wf = true) p.2) (x.f0, x.f1)) x) x) p.1 ∧ (fun p : ((List (List (List Int))) × (List (List Int))) => (fun l : List (List (List Int)) => l.length ≤ maxLen ∧ ∀ x ∈ l, (fun l : List (List Int) => l.length ≤ maxLen ∧ ∀ x ∈ l, (fun l : List Int => l.length ≤ maxLen ∧ ∀ x ∈ l, (fun n : Int => (Lit.int .i64 n).wf = true) x) x) x) p.1 ∧ (fun l : List (List Int) => l.length ≤ maxLen ∧ ∀ x ∈ l, (fun l : List Int => l.length ≤ maxLen ∧ ∀ x ∈ l, (fun n : Int => (Lit.int .i64 n).wf = true) x) x) p.2) p.2) p.2) p.2) p.2) := by
 refine of_struct Try.underlying39 (by kernel_rfl) ?_
 exact (fs_more (ok := (fun n : Int => (Lit.int .i64 n).wf = true)) (ok2 := (fun p : ((Int) × (((List Bool) × (((List (List (S101))) × (((List (List (List Int))) × (List (List Int))))))))) => (fun n : Int => (Lit.int .i64 n).wf = true) p.1 ∧ (fun p : ((List Bool) × (((List (List (S101))) × (((List (List (List Int))) × (List (List Int))))))) => (fun l : List Bool => l.length ≤ maxLen ∧ ∀ x ∈ l, (fun _ : Bool => True) x) p.1 ∧ (fun p : ((List (List (S101))) × (((List (List (List Int))) × (List (List Int))))) => (fun l : List (List (S101)) => l.length ≤ maxLen ∧ ∀ x ∈ l, (fun l : List (S101) => l.length ≤ maxLen ∧ ∀ x ∈ l, (fun x : S101 => (fun p : ((Int) × (Int)) => (fun n : Int => (Lit.int .i64 n).wf = true) p.1 ∧ (fun n : Int => (Lit.int .i64 n).wf = true) p.2) (x.f0, x.f1)) x) x) p.1 ∧ (fun p : ((List (List (List Int))) × (List (List Int))) => (fun l : List (List (List Int)) => l.length ≤ maxLen ∧ ∀ x ∈ l, (fun l : List (List Int) => l.length ≤ maxLen ∧ ∀ x ∈ l, (fun l : List Int => l.length ≤ maxLen ∧ ∀ x ∈ l, (fun n : Int => (Lit.int .i64 n).wf = true) x) x) x) p.1 ∧ (fun l : List (List Int) => l.length ≤ maxLen ∧ ∀ x ∈ l, (fun l : List Int => l.length ≤ maxLen ∧ ∀ x ∈ l, (fun n : Int => (Lit.int .i64 n).wf = true) x) x) p.2) p.2) p.2) p.2)) (by rfl) (by kernel_rfl) of2 (fs_more (ok := (fun n : Int => (Lit.int .i64 n).wf = true)) (ok2 := (fun p : ((List Bool) × (((List (List (S101))) × (((List (List (List Int))) × (List (List Int))))))) => (fun l : List Bool => l.length ≤ maxLen ∧ ∀ x ∈ l, (fun _ : Bool => True) x) p.1 ∧ (fun p : ((List (List (S101))) × (((List (List (List Int))) × (List (List Int))))) => (fun l : List (List (S101)) => l.length ≤ maxLen ∧ ∀ x ∈ l, (fun l : List (S101) => l.length ≤ maxLen ∧ ∀ x ∈ l, (fun x : S101 => (fun p : ((Int) × (Int)) => (fun n : Int => (Lit.int .i64 n).wf = true) p.1 ∧ (fun n : Int => (Lit.int .i64 n).wf = true) p.2) (x.f0, x.f1)) x) x) p.1 ∧ (fun p : ((List (List (List Int))) × (List (List Int))) => (fun l : List (List (List Int)) => l.length ≤ maxLen ∧ ∀ x ∈ l, (fun l : List (List Int) => l.length ≤ maxLen ∧ ∀ x ∈ l, (fun l : List Int => l.length ≤ maxLen ∧ ∀ x ∈ l, (fun n : Int => (Lit.int .i64 n).wf = true) x) x) x) p.1 ∧ (fun l : List (List Int) => l.length ≤ maxLen ∧ ∀ x ∈ l, (fun l : List Int => l.length ≤ maxLen ∧ ∀ x ∈ l, (fun n : Int => (Lit.int .i64 n).wf = true) x) x) p.2) p.2) p.2)) (by rfl) (by kernel_rfl) of2 (fs_more (ok := (fun l : List Bool => l.length ≤ maxLen ∧ ∀ x ∈ l, (fun _ : Bool => True) x)) (ok2 := (fun p : ((List (List (S101))) × (((List (List (List Int))) × (List (List Int))))) => (fun l : List (List (S101)) => l.length ≤ maxLen ∧ ∀ x ∈ l, (fun l : List (S101) => l.length ≤ maxLen ∧ ∀ x ∈ l, (fun x : S101 => (fun p : ((Int) × (Int)) => (fun n : Int => (Lit.int .i64 n).wf = true) p.1 ∧ (fun n : Int => (Lit.int .i64 n).wf = true) p.2) (x.f0, x.f1)) x) x) p.1 ∧ (fun p : ((List (List (List Int))) × (List (List Int))) => (fun l : List (List (List Int)) => l.length ≤ maxLen ∧ ∀ x ∈ l, (fun l : List (List Int) => l.length ≤ maxLen ∧ ∀ x ∈ l, (fun l : List Int => l.length ≤ maxLen ∧ ∀ x ∈ l, (fun n : Int => (Lit.int .i64 n).wf = true) x) x) x) p.1 ∧ (fun l : List (List Int) => l.length ≤ maxLen ∧ ∀ x ∈ l, (fun l : List Int => l.length ≤ maxLen ∧ ∀ x ∈ l, (fun n : Int => (Lit.int .i64 n).wf = true) x) x) p.2) p.2)) (by rfl) (by kernel_rfl) of22 (fs_more (ok := (fun l : List (List (S101)) => l.length ≤ maxLen ∧ ∀ x ∈ l, (fun l : List (S101) => l.length ≤ maxLen ∧ ∀ x ∈ l, (fun x : S101 => (fun p : ((Int) × (Int)) => (fun n : Int => (Lit.int .i64 n).wf = true) p.1 ∧ (fun n : Int => (Lit.int .i64 n).wf = true) p.2) (x.f0, x.f1)) x) x)) (ok2 := (fun p : ((List (List (List Int))) × (List (List Int))) => (fun l : List (List (List Int)) => l.length ≤ maxLen ∧ ∀ x ∈ l, (fun l : List (List Int) => l.length ≤ maxLen ∧ ∀ x ∈ l, (fun l : List Int => l.length ≤ maxLen ∧ ∀ x ∈ l, (fun n : Int => (Lit.int .i64 n).wf = true) x) x) x) p.1 ∧ (fun l : List (List Int) => l.length ≤ maxLen ∧ ∀ x ∈ l, (fun l : List Int => l.length ≤ maxLen ∧ ∀ x ∈ l, (fun n : Int => (Lit.int .i64 n).wf = true) x) x) p.2)) (by rfl) (by kernel_rfl) of37 (fs_more (ok := (fun l : List (List (List Int)) => l.length ≤ maxLen ∧ ∀ x ∈ l, (fun l : List (List Int) => l.length ≤ maxLen ∧ ∀ x ∈ l, (fun l : List Int => l.length ≤ maxLen ∧ ∀ x ∈ l, (fun n : Int => (Lit.int .i64 n).wf = true) x) x) x)) (ok2 := (fun l : List (List Int) => l.length ≤ maxLen ∧ ∀ x ∈ l, (fun l : List Int => l.length ≤ maxLen ∧ ∀ x ∈ l, (fun n : Int => (Lit.int .i64 n).wf = true) x) x)) (by rfl) (by kernel_rfl) of24 (fs_one (by rfl) (by kernel_rfl) of25))))))
set_option maxRecDepth 100000 in
set_option maxHeartbeats 4000000 in
theorem lifted (os : Os) (started : os.Started) (H : Type) (enc : TypeId × Value → H) :
  ReturnsInHanded {} Try.checked os 7 .any (Rows.fnExactOppositeCheckerSpec.pre6 enc Try.prog Try.f7 Rows.fnExactOppositeCheckerRow.domain false) (Rows.fnExactOppositeCheckerSpec.post enc Try.prog Try.f7 false true false false) := by
 refine returnsInHanded_of_change_sized (C := Try.checked) own started (by kernel_rfl) Try.func7
  (ChangeSpec.witness6 (enc := enc) (C := Try.checked) false ⟨#[], #[.agg #[.int .i64 0, .int .i64 0, .slice none 0 0, .slice none 0 0, .slice none 0 0, .slice none 0 0]], []⟩ 8 (by kernel_rfl) (by kernel_rfl) (by kernel_rfl) (by kernel_rfl)) ?_
 intro W base args ds gs before hval0 hW hcnd hsz0 _
 have hval : ∀ (j : Nat) t v, Try.f7.params[j]? = some t → args[j]? = some v → Value.okWide Try.prog W .any base t v := hval0
 have hW' := hW
 obtain ⟨p, q, hA0, hV, rfl, hfz, hnd⟩ := hW
 have hA : DataW.TrodAll enc Try.prog W 0 (fun _ => true) true Try.f7.params.toList args.toList ds p := hA0
 rw [Try.params7] at hA hval
 obtain ⟨v0, vs0, d0, ds0, p0, q0, hargs, rfl, rfl, h0, r0⟩ := trodAll_cons hA
 obtain ⟨rfl, rfl, rfl⟩ := trodAll_nil r0
 obtain rfl : args = #[v0] := by cases args; simp_all
 obtain ⟨rfl, rfl⟩ := trodVars_none hV
 have k0 := h0
 have lt0 : ∀ x ∈ p0, x.block < W.heap.size := by obtain ⟨m, hm⟩ := k0; exact DataW.trod_lt m _ _ _ hm
 obtain ⟨fu0, hf0⟩ := h0
 obtain ⟨x0, hK0, ho0⟩ := of39t H enc W _ _ _ hf0
 obtain ⟨cs0, rfl, _⟩ := okWide_struct Try.underlying39 (hval 0 39 v0 rfl rfl)
 obtain ⟨_, _, hcs0, rfl, ⟨_, _, rfl, rfl, ⟨_, _, rfl, ⟨A0_2, c0_2, rfl, hc0_2, hr0_2⟩, ⟨_, _, rfl, ⟨A0_3, c0_3, rfl, hc0_3, hr0_3⟩, ⟨_, _, rfl, ⟨A0_4, c0_4, rfl, hc0_4, hr0_4⟩, ⟨A0_5, c0_5, rfl, hc0_5, hr0_5⟩⟩⟩⟩⟩⟩ := hK0
 obtain rfl : cs0 = #[.int .i64 ((x0).1), .int .i64 (((x0).2).1), .slice A0_2 (((x0).2).2).1.length c0_2, .slice A0_3 ((((x0).2).2).2).1.length c0_3, .slice A0_4 (((((x0).2).2).2).2).1.length c0_4, .slice A0_5 (((((x0).2).2).2).2).2.length c0_5] := by
  have hcs_ : cs0.toList = _ := hcs0
  exact Array.toList_inj.1 (hcs_.trans rfl)
 clear hA0 hval0 hsz0
 refine (P.Opp.walk ((x0).1) (((x0).2).1) A0_2 c0_2 ((((x0).2).2).1) A0_3 c0_3 (((((x0).2).2).2).1) A0_4 c0_4 ((((((x0).2).2).2).2).1) A0_5 c0_5 ((((((x0).2).2).2).2).2) W hr0_2 hc0_2 hr0_3 hc0_3 hr0_4 hc0_4 hr0_5 hc0_5 ho0.2.2.1.1 ⟨ho0.2.2.2.1.1, fun x hx => (ho0.2.2.2.1.2 x hx).1⟩ ⟨ho0.2.2.2.2.1.1, fun x hx => ⟨(ho0.2.2.2.2.1.2 x hx).1, fun y hy => ((ho0.2.2.2.2.1.2 x hx).2 y hy).1⟩⟩ ⟨ho0.2.2.2.2.2.1, fun x hx => (ho0.2.2.2.2.2.2 x hx).1⟩).mono fun e W' hp => ?_
 obtain ⟨he, bel0⟩ := hp
 have bel : Below W.heap.size W W' := bel0
 subst he
 exact ⟨_, rfl, _, _, _, [], _, [], hW', trodAll_mk1 (shut_bool Try.underlying4 _), (trodAll_cons_mk (Below.trod laidOut (by kernel_rfl) (oT (by kernel_rfl)) k0 bel lt0) trodAll_mk0), rfl, bel.frame _, fun h => by cases h⟩
end Go.Proofs.Ytepkfigcnnfoaaa.fnExactOppositeChecker
