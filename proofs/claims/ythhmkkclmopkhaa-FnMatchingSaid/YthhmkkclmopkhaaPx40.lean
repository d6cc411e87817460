/- Machine side of the laws of this seat: for each Go function that they reach, a Lean function and the proof that a call comes to just its answer. Written by a program of this session. -/
import Derived.Test.YthhmkkclmopkhaaPx0
import Derived.Test.YthhmkkclmopkhaaPx41
import Derived.Test.YthhmkkclmopkhaaPx50
import Derived.Test.YthhmkkclmopkhaaPx51
namespace Go.Proofs.Ythhmkkclmopkhaa.P
open Go.RowKit Go.Proofs.YthhmkkclmopkhaaW.PrintWords Go.Proofs.YthhmkkclmopkhaaW.PrintLast Go.Proofs.YthhmkkclmopkhaaW.PrintMore
attribute [local go_sem] max2_int min2_int max_two min_two max_three min_three max_four min_four   -- for this text's walks alone
set_option linter.unusedVariables false
set_option linter.unusedSimpArgs false

/-! ### impl_match: function 40 -/
mutual
def impl_match.l0 : Nat → ByteArray → Int → Int → List Int → List Int → List Int → List Int → List Int → Option (List Int × List Int × List Int × List Int × List Int)
  | 0, _, _, _, _, _, _, _, _ => none
  | k + 1, x0, x13, x14, x265000, x265001, x265002, x265003, x265004 => if x14 < x13 then (if 0 ≤ x14 then (if x14 < (x0.size : Int) then ((impl_isReturn.f (bt x0 x14)).bind fun t265 => (if t265 = true then (impl_match.j1 k x0 x14 x14 (-1) (x265002.length : Int) x13 x14 ((x265002.length : Int) == 0) x265000 x265001 x265002 x265003 x265004) else (impl_match.j1 k x0 x14 x14 (-1) (x265002.length : Int) x13 x14 false x265000 x265001 x265002 x265003 x265004))) else (none)) else (none)) else (some (x265000, x265001, x265002, x265003, x265004))
def impl_match.j2 : Nat → ByteArray → Int → Int → Int → Int → Int → List Int → List Int → List Int → List Int → List Int → Option (List Int × List Int × List Int × List Int × List Int)
  | 0, _, _, _, _, _, _, _, _, _, _, _ => none
  | k + 1, x0, x4, x5, x6, x13, x14, x265000, x265001, x265002, x265003, x265004 => if (x265002.length : Int) > 0 then (if 0 ≤ (wrap64 ((x265002.length : Int) - 1)) then (if (wrap64 ((x265002.length : Int) - 1)) < (x265002.length : Int) then (impl_match.j3 k x0 x4 x5 x6 (rd x265002 (wrap64 ((x265002.length : Int) - 1))) x13 x14 x265000 x265001 x265002 x265003 x265004) else (none)) else (none)) else (impl_match.j3 k x0 x4 x5 x6 (-1) x13 x14 x265000 x265001 x265002 x265003 x265004)
def impl_match.j3 : Nat → ByteArray → Int → Int → Int → Int → Int → Int → List Int → List Int → List Int → List Int → List Int → Option (List Int × List Int × List Int × List Int × List Int)
  | 0, _, _, _, _, _, _, _, _, _, _, _, _ => none
  | k + 1, x0, x4, x5, x6, x8, x13, x14, x265000, x265001, x265002, x265003, x265004 => if 0 ≤ x4 then (if x4 < (x0.size : Int) then ((impl_isCall.f (bt x0 x4)).bind fun t279 => (if t279 = true then ((some (([x5] : List Int) : List Int)).bind fun y280 => (if x265002.length + y280.length < 17592186044416 then (impl_match.j4 k x0 (-2) x8 x13 x14 x265000 x265001 (x265002 ++ y280) x265003 x265004) else (none))) else (impl_match.j4 k x0 x6 x8 x13 x14 x265000 x265001 x265002 x265003 x265004))) else (none)) else (none)
def impl_match.j4 : Nat → ByteArray → Int → Int → Int → Int → List Int → List Int → List Int → List Int → List Int → Option (List Int × List Int × List Int × List Int × List Int)
  | 0, _, _, _, _, _, _, _, _, _, _ => none
  | k + 1, x0, x6, x8, x13, x14, x265000, x265001, x265002, x265003, x265004 => (some (([x6] : List Int) : List Int)).bind fun y286 => (if x265000.length + y286.length < 17592186044416 then ((some (([x8] : List Int) : List Int)).bind fun y292 => (if x265004.length + y292.length < 17592186044416 then ((impl_size_int64.f x265002).bind fun t298 => ((some (([t298] : List Int) : List Int)).bind fun y299 => (if x265003.length + y299.length < 17592186044416 then (impl_match.l0 k x0 x13 (wrap64 (x14 + 1)) (x265000 ++ y286) x265001 x265002 (x265003 ++ y299) (x265004 ++ y292)) else (none)))) else (none))) else (none))
def impl_match.j1 : Nat → ByteArray → Int → Int → Int → Int → Int → Int → Bool → List Int → List Int → List Int → List Int → List Int → Option (List Int × List Int × List Int × List Int × List Int)
  | 0, _, _, _, _, _, _, _, _, _, _, _, _, _ => none
  | k + 1, x0, x4, x5, x6, x7, x13, x14, x21, x265000, x265001, x265002, x265003, x265004 => if x21 = true then ((some (([x5] : List Int) : List Int)).bind fun y266 => (if x265001.length + y266.length < 17592186044416 then (impl_match.j2 k x0 x4 x5 (-2) x13 x14 x265000 (x265001 ++ y266) x265002 x265003 x265004) else (none))) else (if 0 ≤ x4 then (if x4 < (x0.size : Int) then ((impl_isReturn.f (bt x0 x4)).bind fun t272 => (if t272 = true then (if 0 ≤ (wrap64 (x7 - 1)) then (if (wrap64 (x7 - 1)) < (x265002.length : Int) then (if 0 ≤ (rd x265002 (wrap64 (x7 - 1))) then (if (rd x265002 (wrap64 (x7 - 1))) < (x265000.length : Int) then (if (wrap64 (x7 - 1)) ≤ (x265002.length : Int) then (impl_match.j2 k x0 x4 x5 (rd x265002 (wrap64 (x7 - 1))) x13 x14 (x265000.set ((rd x265002 (wrap64 (x7 - 1))) : Int).toNat x5) x265001 (x265002.take ((wrap64 (x7 - 1)) : Int).toNat) x265003 x265004) else (none)) else (none)) else (none)) else (none)) else (none)) else (impl_match.j2 k x0 x4 x5 x6 x13 x14 x265000 x265001 x265002 x265003 x265004))) else (none)) else (none))
end
def impl_match.f (k : Nat) (a0 : ByteArray) : Option (List Int × List Int × List Int × List Int × List Int) := impl_match.l0 k a0 (a0.size : Int) 0 ([] : List Int) ([] : List Int) ([] : List Int) (([0] : List Int)) ([] : List Int)
theorem impl_match.mono_l : ∀ k, (∀ y0 y1 y2 y3 y4 y5 y6 y7, LeO (impl_match.l0 k y0 y1 y2 y3 y4 y5 y6 y7) (impl_match.l0 (k + 1) y0 y1 y2 y3 y4 y5 y6 y7)) ∧ (∀ y0 y1 y2 y3 y4 y5 y6 y7 y8 y9 y10, LeO (impl_match.j2 k y0 y1 y2 y3 y4 y5 y6 y7 y8 y9 y10) (impl_match.j2 (k + 1) y0 y1 y2 y3 y4 y5 y6 y7 y8 y9 y10)) ∧ (∀ y0 y1 y2 y3 y4 y5 y6 y7 y8 y9 y10 y11, LeO (impl_match.j3 k y0 y1 y2 y3 y4 y5 y6 y7 y8 y9 y10 y11) (impl_match.j3 (k + 1) y0 y1 y2 y3 y4 y5 y6 y7 y8 y9 y10 y11)) ∧ (∀ y0 y1 y2 y3 y4 y5 y6 y7 y8 y9, LeO (impl_match.j4 k y0 y1 y2 y3 y4 y5 y6 y7 y8 y9) (impl_match.j4 (k + 1) y0 y1 y2 y3 y4 y5 y6 y7 y8 y9)) ∧ (∀ y0 y1 y2 y3 y4 y5 y6 y7 y8 y9 y10 y11 y12, LeO (impl_match.j1 k y0 y1 y2 y3 y4 y5 y6 y7 y8 y9 y10 y11 y12) (impl_match.j1 (k + 1) y0 y1 y2 y3 y4 y5 y6 y7 y8 y9 y10 y11 y12))
  | 0 => ⟨fun _ _ _ _ _ _ _ _ r h => by simp [impl_match.l0] at h, fun _ _ _ _ _ _ _ _ _ _ _ r h => by simp [impl_match.j2] at h, fun _ _ _ _ _ _ _ _ _ _ _ _ r h => by simp [impl_match.j3] at h, fun _ _ _ _ _ _ _ _ _ _ r h => by simp [impl_match.j4] at h, fun _ _ _ _ _ _ _ _ _ _ _ _ _ r h => by simp [impl_match.j1] at h⟩
  | k + 1 => by
    obtain ⟨ih0, ih1, ih2, ih3, ih4⟩ := impl_match.mono_l k
    refine ⟨?_, ?_, ?_, ?_, ?_⟩
    · intro y0 y1 y2 y3 y4 y5 y6 y7
      unfold impl_match.l0
      repeat' first
      | (with_reducible exact ih0 _ _ _ _ _ _ _ _)
      | (with_reducible exact ih1 _ _ _ _ _ _ _ _ _ _ _)
      | (with_reducible exact ih2 _ _ _ _ _ _ _ _ _ _ _ _)
      | (with_reducible exact ih3 _ _ _ _ _ _ _ _ _ _)
      | (with_reducible exact ih4 _ _ _ _ _ _ _ _ _ _ _ _ _)
      | (with_reducible exact LeO.refl _)
      | (with_reducible exact LeO.none _)
      | (with_reducible refine LeO.ite ?_ ?_)
      | (with_reducible refine LeO.bind ?_ (fun _ => ?_))
      | exact ih0 _ _ _ _ _ _ _ _
      | exact ih1 _ _ _ _ _ _ _ _ _ _ _
      | exact ih2 _ _ _ _ _ _ _ _ _ _ _ _
      | exact ih3 _ _ _ _ _ _ _ _ _ _
      | exact ih4 _ _ _ _ _ _ _ _ _ _ _ _ _
      | exact LeO.none _
      | refine LeO.ite ?_ ?_
      | refine LeO.bind ?_ (fun _ => ?_)
    · intro y0 y1 y2 y3 y4 y5 y6 y7 y8 y9 y10
      unfold impl_match.j2
      repeat' first
      | (with_reducible exact ih0 _ _ _ _ _ _ _ _)
      | (with_reducible exact ih1 _ _ _ _ _ _ _ _ _ _ _)
      | (with_reducible exact ih2 _ _ _ _ _ _ _ _ _ _ _ _)
      | (with_reducible exact ih3 _ _ _ _ _ _ _ _ _ _)
      | (with_reducible exact ih4 _ _ _ _ _ _ _ _ _ _ _ _ _)
      | (with_reducible exact LeO.refl _)
      | (with_reducible exact LeO.none _)
      | (with_reducible refine LeO.ite ?_ ?_)
      | (with_reducible refine LeO.bind ?_ (fun _ => ?_))
      | exact ih0 _ _ _ _ _ _ _ _
      | exact ih1 _ _ _ _ _ _ _ _ _ _ _
      | exact ih2 _ _ _ _ _ _ _ _ _ _ _ _
      | exact ih3 _ _ _ _ _ _ _ _ _ _
      | exact ih4 _ _ _ _ _ _ _ _ _ _ _ _ _
      | exact LeO.none _
      | refine LeO.ite ?_ ?_
      | refine LeO.bind ?_ (fun _ => ?_)
    · intro y0 y1 y2 y3 y4 y5 y6 y7 y8 y9 y10 y11
      unfold impl_match.j3
      repeat' first
      | (with_reducible exact ih0 _ _ _ _ _ _ _ _)
      | (with_reducible exact ih1 _ _ _ _ _ _ _ _ _ _ _)
      | (with_reducible exact ih2 _ _ _ _ _ _ _ _ _ _ _ _)
      | (with_reducible exact ih3 _ _ _ _ _ _ _ _ _ _)
      | (with_reducible exact ih4 _ _ _ _ _ _ _ _ _ _ _ _ _)
      | (with_reducible exact LeO.refl _)
      | (with_reducible exact LeO.none _)
      | (with_reducible refine LeO.ite ?_ ?_)
      | (with_reducible refine LeO.bind ?_ (fun _ => ?_))
      | exact ih0 _ _ _ _ _ _ _ _
      | exact ih1 _ _ _ _ _ _ _ _ _ _ _
      | exact ih2 _ _ _ _ _ _ _ _ _ _ _ _
      | exact ih3 _ _ _ _ _ _ _ _ _ _
      | exact ih4 _ _ _ _ _ _ _ _ _ _ _ _ _
      | exact LeO.none _
      | refine LeO.ite ?_ ?_
      | refine LeO.bind ?_ (fun _ => ?_)
    · intro y0 y1 y2 y3 y4 y5 y6 y7 y8 y9
      unfold impl_match.j4
      repeat' first
      | (with_reducible exact ih0 _ _ _ _ _ _ _ _)
      | (with_reducible exact ih1 _ _ _ _ _ _ _ _ _ _ _)
      | (with_reducible exact ih2 _ _ _ _ _ _ _ _ _ _ _ _)
      | (with_reducible exact ih3 _ _ _ _ _ _ _ _ _ _)
      | (with_reducible exact ih4 _ _ _ _ _ _ _ _ _ _ _ _ _)
      | (with_reducible exact LeO.refl _)
      | (with_reducible exact LeO.none _)
      | (with_reducible refine LeO.ite ?_ ?_)
      | (with_reducible refine LeO.bind ?_ (fun _ => ?_))
      | exact ih0 _ _ _ _ _ _ _ _
      | exact ih1 _ _ _ _ _ _ _ _ _ _ _
      | exact ih2 _ _ _ _ _ _ _ _ _ _ _ _
      | exact ih3 _ _ _ _ _ _ _ _ _ _
      | exact ih4 _ _ _ _ _ _ _ _ _ _ _ _ _
      | exact LeO.none _
      | refine LeO.ite ?_ ?_
      | refine LeO.bind ?_ (fun _ => ?_)
    · intro y0 y1 y2 y3 y4 y5 y6 y7 y8 y9 y10 y11 y12
      unfold impl_match.j1
      repeat' first
      | (with_reducible exact ih0 _ _ _ _ _ _ _ _)
      | (with_reducible exact ih1 _ _ _ _ _ _ _ _ _ _ _)
      | (with_reducible exact ih2 _ _ _ _ _ _ _ _ _ _ _ _)
      | (with_reducible exact ih3 _ _ _ _ _ _ _ _ _ _)
      | (with_reducible exact ih4 _ _ _ _ _ _ _ _ _ _ _ _ _)
      | (with_reducible exact LeO.refl _)
      | (with_reducible exact LeO.none _)
      | (with_reducible refine LeO.ite ?_ ?_)
      | (with_reducible refine LeO.bind ?_ (fun _ => ?_))
      | exact ih0 _ _ _ _ _ _ _ _
      | exact ih1 _ _ _ _ _ _ _ _ _ _ _
      | exact ih2 _ _ _ _ _ _ _ _ _ _ _ _
      | exact ih3 _ _ _ _ _ _ _ _ _ _
      | exact ih4 _ _ _ _ _ _ _ _ _ _ _ _ _
      | exact LeO.none _
      | refine LeO.ite ?_ ?_
      | refine LeO.bind ?_ (fun _ => ?_)
theorem impl_match.mono : ∀ a0 k, LeO (impl_match.f k a0) (impl_match.f (k + 1) a0) := by
  intro a0 k
  obtain ⟨ih0, ih1, ih2, ih3, ih4⟩ := impl_match.mono_l k
  unfold impl_match.f
  repeat' first
      | (with_reducible exact ih0 _ _ _ _ _ _ _ _)
      | (with_reducible exact ih1 _ _ _ _ _ _ _ _ _ _ _)
      | (with_reducible exact ih2 _ _ _ _ _ _ _ _ _ _ _ _)
      | (with_reducible exact ih3 _ _ _ _ _ _ _ _ _ _)
      | (with_reducible exact ih4 _ _ _ _ _ _ _ _ _ _ _ _ _)
      | (with_reducible exact LeO.refl _)
      | (with_reducible exact LeO.none _)
      | (with_reducible refine LeO.ite ?_ ?_)
      | (with_reducible refine LeO.bind ?_ (fun _ => ?_))
      | exact ih0 _ _ _ _ _ _ _ _
      | exact ih1 _ _ _ _ _ _ _ _ _ _ _
      | exact ih2 _ _ _ _ _ _ _ _ _ _ _ _
      | exact ih3 _ _ _ _ _ _ _ _ _ _
      | exact ih4 _ _ _ _ _ _ _ _ _ _ _ _ _
      | exact LeO.none _
      | refine LeO.ite ?_ ?_
      | refine LeO.bind ?_ (fun _ => ?_)
def impl_match.T21 : Bool × List (List Nat × List Nat) := (true, [([], []), ([0], [0]), ([], []), ([2], [2]), ([1, 3], [1, 3]), ([], []), ([5], [5]), ([], []), ([7], [7]), ([6, 8, 4], [6, 8]), ([0, 1, 2, 3, 4, 5, 6], []), ([10, 4, 9, 0, 1, 2, 3, 4, 5, 6], [4, 10]), ([0, 1, 2, 3, 4, 5, 6, 7, 8, 9, 10, 11], []), ([12, 9, 11, 0, 1, 2, 3, 4, 5, 6, 7, 8, 9, 10, 11], [9, 12])])
def impl_match.B21 : List Nat := [0, 1, 0, 4, 15, 0, 32, 0, 128, 511, 127, 2047, 4095, 8191]
theorem impl_match.tab21 : rtab .any (opsOf Try.f40 21) = impl_match.T21 := by kernel_rfl
theorem impl_match.bits21 : waitsOk impl_match.T21.2 impl_match.B21 = true := by kernel_rfl
def impl_match.T22 : Bool × List (List Nat × List Nat) := (true, [([], []), ([0], [0]), ([], []), ([2], [2]), ([3], [3]), ([4], [4]), ([1, 5, 4], [1, 5]), ([0, 1, 2, 3, 4, 5, 6], []), ([7, 6, 6, 0, 1, 2, 3, 4, 5, 6], [6, 7])])
def impl_match.B22 : List Nat := [0, 1, 0, 4, 12, 28, 63, 127, 255]
theorem impl_match.tab22 : rtab .any (opsOf Try.f40 22) = impl_match.T22 := by kernel_rfl
theorem impl_match.bits22 : waitsOk impl_match.T22.2 impl_match.B22 = true := by kernel_rfl
set_option maxHeartbeats 8000000 in
set_option maxRecDepth 100000 in
theorem impl_match.calls (k : Nat) (a0 : ByteArray) (r1 : List Int) (r2 : List Int) (r3 : List Int) (r4 : List Int) (r5 : List Int) (w : World) (h : impl_match.f k a0 = some (r1, r2, r3, r4, r5)) :
    Calls Try.prog 40 #[.string a0] w fun e w' => ∃ v0_ v1_ v2_ v3_ v4_ : Value, e = .returned (.agg #[v0_, v1_, v2_, v3_, v4_]) ∧ Kd.R (Kd.int .i64) 2 w' w.heap.size (fun k_ => some k_ ≠ (v1_ : Value).ownBlock ∧ some k_ ≠ (v2_ : Value).ownBlock ∧ some k_ ≠ (v3_ : Value).ownBlock ∧ some k_ ≠ (v4_ : Value).ownBlock) v0_ r1 ∧ Kd.R (Kd.int .i64) 2 w' w.heap.size (fun k_ => some k_ ≠ (v0_ : Value).ownBlock ∧ some k_ ≠ (v2_ : Value).ownBlock ∧ some k_ ≠ (v3_ : Value).ownBlock ∧ some k_ ≠ (v4_ : Value).ownBlock) v1_ r2 ∧ Kd.R (Kd.int .i64) 2 w' w.heap.size (fun k_ => some k_ ≠ (v0_ : Value).ownBlock ∧ some k_ ≠ (v1_ : Value).ownBlock ∧ some k_ ≠ (v3_ : Value).ownBlock ∧ some k_ ≠ (v4_ : Value).ownBlock) v2_ r3 ∧ Kd.R (Kd.int .i64) 2 w' w.heap.size (fun k_ => some k_ ≠ (v0_ : Value).ownBlock ∧ some k_ ≠ (v1_ : Value).ownBlock ∧ some k_ ≠ (v2_ : Value).ownBlock ∧ some k_ ≠ (v4_ : Value).ownBlock) v3_ r4 ∧ Kd.R (Kd.int .i64) 2 w' w.heap.size (fun k_ => some k_ ≠ (v0_ : Value).ownBlock ∧ some k_ ≠ (v1_ : Value).ownBlock ∧ some k_ ≠ (v2_ : Value).ownBlock ∧ some k_ ≠ (v3_ : Value).ownBlock) v4_ r5 ∧ Below w.heap.size w w' := by
  have hu60 := Try.underlying60
  have HB := Aside0.mk (Below.refl w.heap.size w)
  have H : (impl_match.l0 k a0 (a0.size : Int) 0 ([] : List Int) ([] : List Int) ([] : List Int) (([0] : List Int)) ([] : List Int)) = some (r1, r2, r3, r4, r5) := h
  clear h
  obtain ⟨y261, hy261⟩ : ∃ y_ : List Int, y_ = (([0] : List Int)) := ⟨_, rfl⟩
  replace H : (impl_match.l0 k a0 (a0.size : Int) 0 ([] : List Int) ([] : List Int) ([] : List Int) y261 ([] : List Int)) = some (r1, r2, r3, r4, r5) := by first | (rw [hy261]; with_reducible exact H) | (have H2_ := (Option.bind_some _ _).symm.trans H; rw [hy261]; with_reducible exact H2_) | (have H2_ := (Option.bind_some _ _).symm.trans H; with_reducible exact H2_) | with_reducible exact H | (rw [hy261]; exact H) | exact H
  have Ny261 := Aside0.mk hy261
  clear hy261
  have H' := Aside0.mk H
  clear H
  go_enter Try.func40, Try.ntmps40
  go_wp2_with (first | ((with_reducible refine gate_dst (N := 2) rfl ?_); refine box_event ?hg (N := 2) ?hd (cs := #[.slice none 0 0, .slice none 0 0, .slice none 0 0, .slice none 0 0, .slice none 0 0]) (t := 60) ?hr ?_; (case hd => rfl); (case hg => rfl); (case hr => first | (go_simp; done) | (go_simp; rfl)); intro gb260 hg w2 hbox hb; have n0_ := Aside0.mk (below_step (by repeat (first | (with_reducible first | exact HB.out | apply below_alloc | apply pw_below_drewN | apply below_drew1) | exact HB.out)) hb); have n1_ := Aside0.mk (hbox); have n2_ := Aside0.mk ((by rw [hg]; exact (below_size (by repeat (first | (with_reducible first | exact HB.out | apply below_alloc | apply pw_below_drewN | apply below_drew1) | exact HB.out))) : w.heap.size ≤ gb260)); have n3_ := Aside0.mk ((by rw [hg]; exact (below_size (by repeat (first | (with_reducible first | exact HB.out | apply below_alloc | apply pw_below_drewN | apply below_drew1) | exact HB.out))) : w.heap.size ≤ gb260)); clear HB; have HB := n0_; have BK260 := n1_; have GW260 := n2_; have GE260 := n3_; clear n0_ n1_ n2_ n3_; clear hb hbox hg) | ((with_reducible refine gate_dst (N := 10) rfl ?_); refine Kd.R_lit (Kd.int .i64) _ 2 ?hg (N := 10) ?hd (xs := ([0] : List Int)) (inner := [.int .i64 0]) (ok := fun _ => True) (okp := fun _ => True) ?hr ?hp (fun _ hk => hk) trivial (Below.refl _ _) (Nat.le_refl _) (by simp) ?_; (case hd => rfl); (case hg => rfl); (case hr => first | (go_simp; done) | (go_simp; rfl)); (case hp => exact (Reps.one (show Kd.M (Kd.int .i64) _ _ _ 0 [.int .i64 0] from rfl) (Reps.none _ _))); intro v262 w3 ho4 hb hg_ hnew_; clear hg_ hnew_; (first | rw [← Ny261.out] at ho4 | (simp only [Int.reduceToNat] at ho4; rw [← Ny261.out] at ho4)); have n0_ := Aside0.mk (Kd.R_lower ho4 (below_size (by repeat (first | (with_reducible first | exact HB.out | apply below_alloc | apply pw_below_drewN | apply below_drew1 | refine below_set ?_ GE260.out) | exact HB.out)))); have n1_ := Aside0.mk (blk_below (g := gb260) (o := .cells #[.slice none 0 0, .slice none 0 0, .slice none 0 0, .slice none 0 0, .slice none 0 0] 60 (0, 0)) (by (with_reducible repeat (first | refine blk_drewN ?_ _ | refine blk_drew ?_ | refine blk_alloc ?_ _)); exact BK260.out) hb); have n2_ := Aside0.mk (below_step (by repeat (first | (with_reducible first | exact HB.out | apply below_alloc | apply pw_below_drewN | apply below_drew1 | refine below_set ?_ GE260.out) | exact HB.out)) hb); clear BK260; clear HB; have HO263 := n0_; have BK260 := n1_; have HB := n2_; clear n0_ n1_ n2_; clear hb ho4; obtain ⟨Ao5, co5, eo5⟩ := Kd.R_slice HO263.out; subst eo5) | ((with_reducible refine gate_dst (N := 3) rfl ?_); refine box_event ?hg (N := 3) ?hd (cs := #[.slice none 0 0, .slice none 0 0, .slice none 0 0, .slice none 0 0, .slice none 0 0]) (t := 60) ?hr ?_; (case hd => rfl); (case hg => rfl); (case hr => first | (go_simp; done) | (go_simp; rfl)); intro gb264 hg w6 hbox hb; have n0_ := Aside0.mk (Kd.R_below (by (with_reducible repeat (first | apply Kd.R_alloc | apply Kd.R_drewN | apply Kd.R_drew)); exact HO263.out) hb); have n1_ := Aside0.mk (blk_below (g := gb260) (o := .cells #[.slice none 0 0, .slice none 0 0, .slice none 0 0, .slice none 0 0, .slice none 0 0] 60 (0, 0)) (by (with_reducible repeat (first | refine blk_drewN ?_ _ | refine blk_drew ?_ | refine blk_alloc ?_ _)); exact BK260.out) hb); have n2_ := Aside0.mk (below_step (by repeat (first | (with_reducible first | exact HB.out | apply below_alloc | apply pw_below_drewN | apply below_drew1 | refine below_set ?_ GE260.out) | exact HB.out)) hb); have n3_ := Aside0.mk (hbox); have n4_ := Aside0.mk ((by rw [hg]; exact (below_size (by repeat (first | (with_reducible first | exact HB.out | apply below_alloc | apply pw_below_drewN | apply below_drew1 | refine below_set ?_ GE260.out) | exact HB.out))) : w.heap.size ≤ gb264)); have n5_ := Aside0.mk ((by rw [hg]; exact (below_size (by repeat (first | (with_reducible first | exact HB.out | apply below_alloc | apply pw_below_drewN | apply below_drew1 | refine below_set ?_ GE260.out) | exact HB.out))) : w.heap.size ≤ gb264)); have n6_ := Aside0.mk ((by rw [hg]; exact Nat.ne_of_lt (blk_lt (g := gb260) (o := .cells #[.slice none 0 0, .slice none 0 0, .slice none 0 0, .slice none 0 0, .slice none 0 0] 60 (0, 0)) (by (with_reducible repeat (first | refine blk_drewN ?_ _ | refine blk_drew ?_ | refine blk_alloc ?_ _)); exact BK260.out)) : gb260 ≠ gb264)); have n7_ := Aside0.mk ((by rw [hg]; exact Nat.ne_of_gt (blk_lt (g := gb260) (o := .cells #[.slice none 0 0, .slice none 0 0, .slice none 0 0, .slice none 0 0, .slice none 0 0] 60 (0, 0)) (by (with_reducible repeat (first | refine blk_drewN ?_ _ | refine blk_drew ?_ | refine blk_alloc ?_ _)); exact BK260.out)) : gb264 ≠ gb260)); clear HO263; clear BK260; clear HB; have HO263 := n0_; have BK260 := n1_; have HB := n2_; have BK264 := n3_; have GW264 := n4_; have GE264 := n5_; have NB260_264 := n6_; have NB264_260 := n7_; clear n0_ n1_ n2_ n3_ n4_ n5_ n6_ n7_; clear hb hbox hg; have hnb7 := NB264_260.out; have hnc7 := NB260_264.out; have hcz8_0 : w6.cell? ⟨gb264, 0, none⟩ = some (.slice none 0 0) := (blk_cell BK264.out 0).trans rfl; have hcz8_1 : w6.cell? ⟨gb264, 1, none⟩ = some (.slice none 0 0) := (blk_cell BK264.out 1).trans rfl; have hcz8_2 : w6.cell? ⟨gb264, 2, none⟩ = some (.slice none 0 0) := (blk_cell BK264.out 2).trans rfl; have hcz8_3 : w6.cell? ⟨gb264, 3, none⟩ = some (.slice none 0 0) := (blk_cell BK264.out 3).trans rfl; have hcz8_4 : w6.cell? ⟨gb264, 4, none⟩ = some (.slice none 0 0) := (blk_cell BK264.out 4).trans rfl; have hfz8_0 := blk_frozen BK264.out 0; have hfz8_1 := blk_frozen BK264.out 1; have hfz8_2 := blk_frozen BK264.out 2; have hfz8_3 := blk_frozen BK264.out 3; have hfz8_4 := blk_frozen BK264.out 4))
  go_loopg [14] k (fun kq v14 w' => ∃ (x14_1 : Int) (x265000_1 : List Int) (x265001_1 : List Int) (x265002_1 : List Int) (x265003_1 : List Int) (x265004_1 : List Int) (u265000 : Value) (u265001 : Value) (u265002 : Value) (u265003 : Value) (u265004 : Value), v14 = .int .i64 x14_1 ∧ Aside0 (impl_match.l0 kq a0 (a0.size : Int) x14_1 x265000_1 x265001_1 x265002_1 x265003_1 x265004_1 = some (r1, r2, r3, r4, r5)) ∧ Aside0 (kq ≤ k) ∧ Aside0 (Kd.R (Kd.int .i64) 2 w' w.heap.size (fun k_ => some k_ ≠ (u265001 : Value).ownBlock ∧ some k_ ≠ (u265002 : Value).ownBlock ∧ some k_ ≠ (u265003 : Value).ownBlock ∧ some k_ ≠ (u265004 : Value).ownBlock) u265000 x265000_1) ∧ Aside0 (Kd.R (Kd.int .i64) 2 w' w.heap.size (fun k_ => some k_ ≠ (u265000 : Value).ownBlock ∧ some k_ ≠ (u265002 : Value).ownBlock ∧ some k_ ≠ (u265003 : Value).ownBlock ∧ some k_ ≠ (u265004 : Value).ownBlock) u265001 x265001_1) ∧ Aside0 (Kd.R (Kd.int .i64) 2 w' w.heap.size (fun k_ => some k_ ≠ (u265000 : Value).ownBlock ∧ some k_ ≠ (u265001 : Value).ownBlock ∧ some k_ ≠ (u265003 : Value).ownBlock ∧ some k_ ≠ (u265004 : Value).ownBlock) u265002 x265002_1) ∧ Aside0 (Kd.R (Kd.int .i64) 2 w' w.heap.size (fun k_ => some k_ ≠ (u265000 : Value).ownBlock ∧ some k_ ≠ (u265001 : Value).ownBlock ∧ some k_ ≠ (u265002 : Value).ownBlock ∧ some k_ ≠ (u265004 : Value).ownBlock) u265003 x265003_1) ∧ Aside0 (Kd.R (Kd.int .i64) 2 w' w.heap.size (fun k_ => some k_ ≠ (u265000 : Value).ownBlock ∧ some k_ ≠ (u265001 : Value).ownBlock ∧ some k_ ≠ (u265002 : Value).ownBlock ∧ some k_ ≠ (u265003 : Value).ownBlock) u265004 x265004_1) ∧ Aside0 (w'.heap[gb260]? = some (.cells #[(.slice none 0 0), (.slice none 0 0), (.slice none 0 0), (.slice none 0 0), (.slice none 0 0)] 60 (0, 0))) ∧ Aside0 (w'.heap[gb264]? = some (.cells #[u265000, u265001, u265002, u265003, u265004] 60 (0, 0))) ∧ Aside0 (Below w.heap.size w w'))
  case atStart => exact ⟨(0), (([] : List Int)), (([] : List Int)), (([] : List Int)), (y261), (([] : List Int)), (.slice none 0 0), (.slice none 0 0), (.slice none 0 0), (.slice Ao5 y261.length co5), (.slice none 0 0), (by first | rfl | (simp; done) | (simp [*]; done)), H', ⟨Nat.le_refl _⟩, ⟨by first | exact Kd.R_nil _ _ _ _ _ | exact Kd.N_nil _ _ _ _ _ | exact Kd.V_nil _ _ _ _ _ | exact Kd.Q_nil _ _ _ _ _ | exact Kd.S_nil _ _ _ _ _⟩, ⟨by first | exact Kd.R_nil _ _ _ _ _ | exact Kd.N_nil _ _ _ _ _ | exact Kd.V_nil _ _ _ _ _ | exact Kd.Q_nil _ _ _ _ _ | exact Kd.S_nil _ _ _ _ _⟩, ⟨by first | exact Kd.R_nil _ _ _ _ _ | exact Kd.N_nil _ _ _ _ _ | exact Kd.V_nil _ _ _ _ _ | exact Kd.Q_nil _ _ _ _ _ | exact Kd.S_nil _ _ _ _ _⟩, ⟨by (with_reducible repeat (first | apply Kd.R_alloc | apply Kd.R_drewN | apply Kd.R_drew)); exact Kd.R_mono (Kd.R_far (p := ⟨gb264, 4, none⟩) (Kd.R_far (p := ⟨gb264, 3, none⟩) (Kd.R_far (p := ⟨gb264, 2, none⟩) (Kd.R_far (p := ⟨gb264, 1, none⟩) (Kd.R_far (p := ⟨gb264, 0, none⟩) (Kd.R_types HO263.out BK264.out (by decide)) (fun _ hk => hk.2) (.slice none 0 0)) (fun _ hk => hk.2) (.slice none 0 0)) (fun _ hk => hk.2) (.slice none 0 0)) (fun _ hk => hk.2) (.slice Ao5 y261.length co5)) (fun _ hk => hk.2) (.slice none 0 0)) (fun _ hk => ⟨(by simp [Value.ownBlock]), ⟨(by simp [Value.ownBlock]), ⟨(by simp [Value.ownBlock]), (by simp [Value.ownBlock])⟩⟩⟩)⟩, ⟨by first | exact Kd.R_nil _ _ _ _ _ | exact Kd.N_nil _ _ _ _ _ | exact Kd.V_nil _ _ _ _ _ | exact Kd.Q_nil _ _ _ _ _ | exact Kd.S_nil _ _ _ _ _⟩, ⟨by (with_reducible repeat (first | refine blk_drewN ?_ _ | refine blk_drew ?_ | refine blk_alloc ?_ _)); refine blk_far ?_ NB260_264.out _; (with_reducible repeat (first | refine blk_drewN ?_ _ | refine blk_drew ?_ | refine blk_alloc ?_ _)); refine blk_far ?_ NB260_264.out _; (with_reducible repeat (first | refine blk_drewN ?_ _ | refine blk_drew ?_ | refine blk_alloc ?_ _)); refine blk_far ?_ NB260_264.out _; (with_reducible repeat (first | refine blk_drewN ?_ _ | refine blk_drew ?_ | refine blk_alloc ?_ _)); refine blk_far ?_ NB260_264.out _; (with_reducible repeat (first | refine blk_drewN ?_ _ | refine blk_drew ?_ | refine blk_alloc ?_ _)); refine blk_far ?_ NB260_264.out _; (with_reducible repeat (first | refine blk_drewN ?_ _ | refine blk_drew ?_ | refine blk_alloc ?_ _)); exact BK260.out⟩, ⟨by (with_reducible repeat (first | refine blk_drewN ?_ _ | refine blk_drew ?_ | refine blk_alloc ?_ _)); refine blk_put (cs := #[.slice none 0 0, .slice none 0 0, .slice none 0 0, .slice Ao5 y261.length co5, .slice none 0 0]) ?_ 4 _ rfl; (with_reducible repeat (first | refine blk_drewN ?_ _ | refine blk_drew ?_ | refine blk_alloc ?_ _)); refine blk_put (cs := #[.slice none 0 0, .slice none 0 0, .slice none 0 0, .slice none 0 0, .slice none 0 0]) ?_ 3 _ rfl; (with_reducible repeat (first | refine blk_drewN ?_ _ | refine blk_drew ?_ | refine blk_alloc ?_ _)); refine blk_put (cs := #[.slice none 0 0, .slice none 0 0, .slice none 0 0, .slice none 0 0, .slice none 0 0]) ?_ 2 _ rfl; (with_reducible repeat (first | refine blk_drewN ?_ _ | refine blk_drew ?_ | refine blk_alloc ?_ _)); refine blk_put (cs := #[.slice none 0 0, .slice none 0 0, .slice none 0 0, .slice none 0 0, .slice none 0 0]) ?_ 1 _ rfl; (with_reducible repeat (first | refine blk_drewN ?_ _ | refine blk_drew ?_ | refine blk_alloc ?_ _)); refine blk_put (cs := #[.slice none 0 0, .slice none 0 0, .slice none 0 0, .slice none 0 0, .slice none 0 0]) ?_ 0 _ rfl; (with_reducible repeat (first | refine blk_drewN ?_ _ | refine blk_drew ?_ | refine blk_alloc ?_ _)); exact BK264.out⟩, ⟨by repeat (first | (with_reducible first | exact HB.out | apply below_alloc | apply pw_below_drewN | apply below_drew1 | refine below_set ?_ GE260.out | refine below_set ?_ GE264.out) | exact HB.out)⟩⟩
  case round =>
    clear H'
    try clear p2
    try clear c4
    try clear c7
    try clear hcz8_0
    try clear hcz8_1
    try clear hcz8_2
    try clear hcz8_3
    try clear hcz8_4
    try clear hfz8_0
    try clear hfz8_1
    try clear hfz8_2
    try clear hfz8_3
    try clear hfz8_4
    obtain ⟨x14_1, x265000_1, x265001_1, x265002_1, x265003_1, x265004_1, u265000, u265001, u265002, u265003, u265004, rfl, HA, HK1, HO_265000, HO_265001, HO_265002, HO_265003, HO_265004, BK260, BK264, HB⟩ := hrel
    cases gk with
    | zero => exact absurd HA.out (by simp [impl_match.l0])
    | succ k1 =>
      have H := HA.out
      clear HA
      simp only [impl_match.l0] at H
      by_cases c9 : x14_1 < (a0.size : Int)
      · rw [if_pos c9] at H
        have c9b0 : decide (x14_1 < (a0.size : Int)) = true := decide_eq_true c9
        clear c9
        have HC10 := Aside0.mk H
        clear H
        have hnb11 := NB264_260.out
        have hnc11 := NB260_264.out
        have hcz12_0 : wr.cell? ⟨gb264, 0, none⟩ = some (u265000) := (blk_cell BK264.out 0).trans rfl
        have hcz12_1 : wr.cell? ⟨gb264, 1, none⟩ = some (u265001) := (blk_cell BK264.out 1).trans rfl
        have hcz12_2 : wr.cell? ⟨gb264, 2, none⟩ = some (u265002) := (blk_cell BK264.out 2).trans rfl
        have hcz12_3 : wr.cell? ⟨gb264, 3, none⟩ = some (u265003) := (blk_cell BK264.out 3).trans rfl
        have hcz12_4 : wr.cell? ⟨gb264, 4, none⟩ = some (u265004) := (blk_cell BK264.out 4).trans rfl
        have hfz12_0 := blk_frozen BK264.out 0
        have hfz12_1 := blk_frozen BK264.out 1
        have hfz12_2 := blk_frozen BK264.out 2
        have hfz12_3 := blk_frozen BK264.out 3
        have hfz12_4 := blk_frozen BK264.out 4
        obtain ⟨Ao13, co13, eo13⟩ := Kd.R_slice HO_265002.out
        subst eo13
        go_upto_block 2 with (fail)
        go_cut [6] (fun v6 wc => ∃ (kq : Nat) (x6_9 : Int) (x265000_9 : List Int) (x265001_9 : List Int) (x265002_9 : List Int) (x265003_9 : List Int) (x265004_9 : List Int) (u265000 : Value) (u265001 : Value) (u265002 : Value) (u265003 : Value) (u265004 : Value), v6 = .int .i64 x6_9 ∧ Aside0 (impl_match.j2 kq a0 x14_1 x14_1 x6_9 (a0.size : Int) x14_1 x265000_9 x265001_9 x265002_9 x265003_9 x265004_9 = some (r1, r2, r3, r4, r5)) ∧ Aside0 (kq ≤ k1) ∧ Aside0 (Kd.R (Kd.int .i64) 2 wc w.heap.size (fun k_ => some k_ ≠ (u265001 : Value).ownBlock ∧ some k_ ≠ (u265002 : Value).ownBlock ∧ some k_ ≠ (u265003 : Value).ownBlock ∧ some k_ ≠ (u265004 : Value).ownBlock) u265000 x265000_9) ∧ Aside0 (Kd.R (Kd.int .i64) 2 wc w.heap.size (fun k_ => some k_ ≠ (u265000 : Value).ownBlock ∧ some k_ ≠ (u265002 : Value).ownBlock ∧ some k_ ≠ (u265003 : Value).ownBlock ∧ some k_ ≠ (u265004 : Value).ownBlock) u265001 x265001_9) ∧ Aside0 (Kd.R (Kd.int .i64) 2 wc w.heap.size (fun k_ => some k_ ≠ (u265000 : Value).ownBlock ∧ some k_ ≠ (u265001 : Value).ownBlock ∧ some k_ ≠ (u265003 : Value).ownBlock ∧ some k_ ≠ (u265004 : Value).ownBlock) u265002 x265002_9) ∧ Aside0 (Kd.R (Kd.int .i64) 2 wc w.heap.size (fun k_ => some k_ ≠ (u265000 : Value).ownBlock ∧ some k_ ≠ (u265001 : Value).ownBlock ∧ some k_ ≠ (u265002 : Value).ownBlock ∧ some k_ ≠ (u265004 : Value).ownBlock) u265003 x265003_9) ∧ Aside0 (Kd.R (Kd.int .i64) 2 wc w.heap.size (fun k_ => some k_ ≠ (u265000 : Value).ownBlock ∧ some k_ ≠ (u265001 : Value).ownBlock ∧ some k_ ≠ (u265002 : Value).ownBlock ∧ some k_ ≠ (u265003 : Value).ownBlock) u265004 x265004_9) ∧ Aside0 (wc.heap[gb260]? = some (.cells #[(.slice none 0 0), (.slice none 0 0), (.slice none 0 0), (.slice none 0 0), (.slice none 0 0)] 60 (0, 0))) ∧ Aside0 (wc.heap[gb264]? = some (.cells #[u265000, u265001, u265002, u265003, u265004] 60 (0, 0))) ∧ Aside0 (Below w.heap.size w wc))
        case first =>
          have H := HC10.out
          clear HC10
          have HC14 := Aside0.mk H
          clear H
          go_upto_region 7 with (fail)
          go_cut [21] (fun v21 wc => ∃ (kq : Nat) (x21_13 : Bool), v21 = .bool x21_13 ∧ Aside0 (impl_match.j1 kq a0 x14_1 x14_1 (-1) (x265002_1.length : Int) (a0.size : Int) x14_1 x21_13 x265000_1 x265001_1 x265002_1 x265003_1 x265004_1 = some (r1, r2, r3, r4, r5)) ∧ Aside0 (kq ≤ k1) ∧ Aside0 (Kd.R (Kd.int .i64) 2 wc w.heap.size (fun k_ => some k_ ≠ (u265001 : Value).ownBlock ∧ some k_ ≠ ((.slice Ao13 x265002_1.length co13) : Value).ownBlock ∧ some k_ ≠ (u265003 : Value).ownBlock ∧ some k_ ≠ (u265004 : Value).ownBlock) u265000 x265000_1) ∧ Aside0 (Kd.R (Kd.int .i64) 2 wc w.heap.size (fun k_ => some k_ ≠ (u265000 : Value).ownBlock ∧ some k_ ≠ ((.slice Ao13 x265002_1.length co13) : Value).ownBlock ∧ some k_ ≠ (u265003 : Value).ownBlock ∧ some k_ ≠ (u265004 : Value).ownBlock) u265001 x265001_1) ∧ Aside0 (Kd.R (Kd.int .i64) 2 wc w.heap.size (fun k_ => some k_ ≠ (u265000 : Value).ownBlock ∧ some k_ ≠ (u265001 : Value).ownBlock ∧ some k_ ≠ (u265003 : Value).ownBlock ∧ some k_ ≠ (u265004 : Value).ownBlock) (.slice Ao13 x265002_1.length co13) x265002_1) ∧ Aside0 (Kd.R (Kd.int .i64) 2 wc w.heap.size (fun k_ => some k_ ≠ (u265000 : Value).ownBlock ∧ some k_ ≠ (u265001 : Value).ownBlock ∧ some k_ ≠ ((.slice Ao13 x265002_1.length co13) : Value).ownBlock ∧ some k_ ≠ (u265004 : Value).ownBlock) u265003 x265003_1) ∧ Aside0 (Kd.R (Kd.int .i64) 2 wc w.heap.size (fun k_ => some k_ ≠ (u265000 : Value).ownBlock ∧ some k_ ≠ (u265001 : Value).ownBlock ∧ some k_ ≠ ((.slice Ao13 x265002_1.length co13) : Value).ownBlock ∧ some k_ ≠ (u265003 : Value).ownBlock) u265004 x265004_1) ∧ Aside0 (wc.heap[gb260]? = some (.cells #[(.slice none 0 0), (.slice none 0 0), (.slice none 0 0), (.slice none 0 0), (.slice none 0 0)] 60 (0, 0))) ∧ Aside0 (wc.heap[gb264]? = some (.cells #[u265000, u265001, (.slice Ao13 x265002_1.length co13), u265003, u265004] 60 (0, 0))) ∧ Aside0 (Below w.heap.size w wc))
          case first =>
            have H := HC14.out
            clear HC14
            by_cases c15 : 0 ≤ x14_1
            · rw [if_pos c15] at H
              have c15b0 : decide (0 ≤ x14_1) = true := decide_eq_true c15
              clear c15
              (first | rw [c15b0] | rw [c15b1] | (simp only [i64_w, i32_w]; rw [c15b0]) | skip)
              by_cases c16 : x14_1 < (a0.size : Int)
              · rw [if_pos c16] at H
                have c16b0 : decide (x14_1 < (a0.size : Int)) = true := decide_eq_true c16
                clear c16
                replace H := Option.bind_eq_some_iff.mp H
                obtain ⟨t265, A180, H⟩ := H
                replace H : (if t265 = true then (impl_match.j1 k1 a0 x14_1 x14_1 (-1) (x265002_1.length : Int) (a0.size : Int) x14_1 ((x265002_1.length : Int) == 0) x265000_1 x265001_1 x265002_1 x265003_1 x265004_1) else (impl_match.j1 k1 a0 x14_1 x14_1 (-1) (x265002_1.length : Int) (a0.size : Int) x14_1 false x265000_1 x265001_1 x265002_1 x265003_1 x265004_1)) = some (r1, r2, r3, r4, r5) := H
                have A18 := Aside0.mk A180
                clear A180
                by_cases c19 : t265 = true
                · subst c19
                  have H1 : (impl_match.j1 k1 a0 x14_1 x14_1 (-1) (x265002_1.length : Int) (a0.size : Int) x14_1 ((x265002_1.length : Int) == 0) x265000_1 x265001_1 x265002_1 x265003_1 x265004_1) = some (r1, r2, r3, r4, r5) := by rw [if_pos rfl] at H; exact H
                  clear H
                  have H := H1
                  clear H1
                  have H' := Aside0.mk H
                  clear H
                  have p17 : 0 ≤ (x14_1 : Int) := of_decide_eq_true (by first | (with_reducible assumption) | assumption)
                  have q17 : x14_1 < (a0.size : Int) := of_decide_eq_true (by first | (with_reducible assumption) | assumption)
                  have hx17 := bt_at a0 x14_1
                  replace p17 := eq_true p17
                  replace q17 := eq_true q17
                  go_wp2_with (first | ((with_reducible refine gate_callee (f := 51) rfl ?_); refine goesL_ (some 25) rfl rfl Try.func51 (by kernel_rfl) rfl #[.int .u8 (bt a0 x14_1)] rfl (by (try simp only [List.map_toArray, List.map_cons, List.map_nil]); first | done | rfl | (simp only [List.length_drop, List.length_take]; rfl)) ?_; (with_reducible refine (impl_isReturn.calls (bt a0 x14_1) true _ A18.out).mono ?_); rintro e w' ⟨rfl, ⟨nd, rfl⟩⟩; refine ⟨_, rfl, ?_⟩))
                  go_meet
                  case rel => exact ⟨_, (((x265002_1.length : Int) == 0)), (by first | rfl | (simp; done) | (simp [*]; done)), H', ⟨by have := HK1.out; first | omega | exact Nat.le_refl _⟩, ⟨by (with_reducible repeat (first | apply Kd.R_alloc | apply Kd.R_drewN | apply Kd.R_drew)); exact HO_265000.out⟩, ⟨by (with_reducible repeat (first | apply Kd.R_alloc | apply Kd.R_drewN | apply Kd.R_drew)); exact HO_265001.out⟩, ⟨by (with_reducible repeat (first | apply Kd.R_alloc | apply Kd.R_drewN | apply Kd.R_drew)); exact HO_265002.out⟩, ⟨by (with_reducible repeat (first | apply Kd.R_alloc | apply Kd.R_drewN | apply Kd.R_drew)); exact HO_265003.out⟩, ⟨by (with_reducible repeat (first | apply Kd.R_alloc | apply Kd.R_drewN | apply Kd.R_drew)); exact HO_265004.out⟩, ⟨by (with_reducible repeat (first | refine blk_drewN ?_ _ | refine blk_drew ?_ | refine blk_alloc ?_ _)); exact BK260.out⟩, ⟨by (with_reducible repeat (first | refine blk_drewN ?_ _ | refine blk_drew ?_ | refine blk_alloc ?_ _)); exact BK264.out⟩, ⟨by repeat (first | (with_reducible first | exact HB.out | apply below_alloc | apply pw_below_drewN | apply below_drew1 | refine below_set ?_ GE260.out | refine below_set ?_ GE264.out) | exact HB.out)⟩⟩
                · replace c19 := Bool.eq_false_iff.mpr c19
                  subst c19
                  have H1 : (impl_match.j1 k1 a0 x14_1 x14_1 (-1) (x265002_1.length : Int) (a0.size : Int) x14_1 false x265000_1 x265001_1 x265002_1 x265003_1 x265004_1) = some (r1, r2, r3, r4, r5) := by rw [if_neg (show ¬ (false = true) by decide)] at H; exact H
                  clear H
                  have H := H1
                  clear H1
                  have H' := Aside0.mk H
                  clear H
                  have p17 : 0 ≤ (x14_1 : Int) := of_decide_eq_true (by first | (with_reducible assumption) | assumption)
                  have q17 : x14_1 < (a0.size : Int) := of_decide_eq_true (by first | (with_reducible assumption) | assumption)
                  have hx17 := bt_at a0 x14_1
                  replace p17 := eq_true p17
                  replace q17 := eq_true q17
                  go_wp2_with (first | ((with_reducible refine gate_callee (f := 51) rfl ?_); refine goesL_ (some 25) rfl rfl Try.func51 (by kernel_rfl) rfl #[.int .u8 (bt a0 x14_1)] rfl (by (try simp only [List.map_toArray, List.map_cons, List.map_nil]); first | done | rfl | (simp only [List.length_drop, List.length_take]; rfl)) ?_; (with_reducible refine (impl_isReturn.calls (bt a0 x14_1) false _ A18.out).mono ?_); rintro e w' ⟨rfl, ⟨nd, rfl⟩⟩; refine ⟨_, rfl, ?_⟩))
                  go_meet
                  case rel => exact ⟨_, (false), (by first | rfl | (simp; done) | (simp [*]; done)), H', ⟨by have := HK1.out; first | omega | exact Nat.le_refl _⟩, ⟨by (with_reducible repeat (first | apply Kd.R_alloc | apply Kd.R_drewN | apply Kd.R_drew)); exact HO_265000.out⟩, ⟨by (with_reducible repeat (first | apply Kd.R_alloc | apply Kd.R_drewN | apply Kd.R_drew)); exact HO_265001.out⟩, ⟨by (with_reducible repeat (first | apply Kd.R_alloc | apply Kd.R_drewN | apply Kd.R_drew)); exact HO_265002.out⟩, ⟨by (with_reducible repeat (first | apply Kd.R_alloc | apply Kd.R_drewN | apply Kd.R_drew)); exact HO_265003.out⟩, ⟨by (with_reducible repeat (first | apply Kd.R_alloc | apply Kd.R_drewN | apply Kd.R_drew)); exact HO_265004.out⟩, ⟨by (with_reducible repeat (first | refine blk_drewN ?_ _ | refine blk_drew ?_ | refine blk_alloc ?_ _)); exact BK260.out⟩, ⟨by (with_reducible repeat (first | refine blk_drewN ?_ _ | refine blk_drew ?_ | refine blk_alloc ?_ _)); exact BK264.out⟩, ⟨by repeat (first | (with_reducible first | exact HB.out | apply below_alloc | apply pw_below_drewN | apply below_drew1 | refine below_set ?_ GE260.out | refine below_set ?_ GE264.out) | exact HB.out)⟩⟩
              · rw [if_neg c16] at H
                exact absurd H (by simp)
            · rw [if_neg c15] at H
              exact absurd H (by simp)
          case rest =>
            clear HC14
            try clear c1
            try clear p1
            try clear q1
            try clear hx1
            try clear p2
            try clear c4
            try clear c5
            try clear c7
            try clear c9
            try clear c9b0
            try clear c11
            try clear c15
            try clear c15b0
            try clear c15b1
            try clear c16
            try clear c16b0
            try clear p17
            try clear q17
            try clear hx17
            try clear c19
            try clear hcz12_0
            try clear hcz12_1
            try clear hcz12_2
            try clear hcz12_3
            try clear hcz12_4
            try clear hcz8_0
            try clear hcz8_1
            try clear hcz8_2
            try clear hcz8_3
            try clear hcz8_4
            try clear hfz12_0
            try clear hfz12_1
            try clear hfz12_2
            try clear hfz12_3
            try clear hfz12_4
            try clear hfz8_0
            try clear hfz8_1
            try clear hfz8_2
            try clear hfz8_3
            try clear hfz8_4
            try clear p17
            try clear p2
            try clear q17
            obtain ⟨kq, x21_13, rfl, HA, HJ13, HO_265000, HO_265001, HO_265002, HO_265003, HO_265004, BK260, BK264, HB⟩ := hcut
            cases kq with
            | zero => exact absurd HA.out (by simp [impl_match.j1])
            | succ kj13 =>
              have H := HA.out
              clear HA
              simp only [impl_match.j1] at H
              by_cases c20 : x21_13 = true
              · subst c20
                have H1 : ((some (([x14_1] : List Int) : List Int)).bind fun y266 => (if x265001_1.length + y266.length < 17592186044416 then (impl_match.j2 kj13 a0 x14_1 x14_1 (-2) (a0.size : Int) x14_1 x265000_1 (x265001_1 ++ y266) x265002_1 x265003_1 x265004_1) else (none))) = some (r1, r2, r3, r4, r5) := by rw [if_pos rfl] at H; exact H
                clear H
                have H := H1
                clear H1
                obtain ⟨y266, hy266⟩ : ∃ y_ : List Int, y_ = (([x14_1] : List Int)) := ⟨_, rfl⟩
                replace H : (if x265001_1.length + y266.length < 17592186044416 then (impl_match.j2 kj13 a0 x14_1 x14_1 (-2) (a0.size : Int) x14_1 x265000_1 (x265001_1 ++ y266) x265002_1 x265003_1 x265004_1) else (none)) = some (r1, r2, r3, r4, r5) := by first | (rw [hy266]; with_reducible exact H) | (have H2_ := (Option.bind_some _ _).symm.trans H; rw [hy266]; with_reducible exact H2_) | (have H2_ := (Option.bind_some _ _).symm.trans H; with_reducible exact H2_) | with_reducible exact H | (rw [hy266]; exact H) | exact H
                have Ny266 := Aside0.mk hy266
                clear hy266
                by_cases c21 : x265001_1.length + y266.length < 17592186044416
                · rw [if_pos c21] at H
                  have LMc21 := Aside0.mk c21
                  clear c21
                  obtain ⟨y269, hy269⟩ : ∃ y_ : List Int, y_ = (x265001_1 ++ y266) := ⟨_, rfl⟩
                  replace H : (impl_match.j2 kj13 a0 x14_1 x14_1 (-2) (a0.size : Int) x14_1 x265000_1 y269 x265002_1 x265003_1 x265004_1) = some (r1, r2, r3, r4, r5) := by first | (rw [hy269]; with_reducible exact H) | (have H2_ := (Option.bind_some _ _).symm.trans H; rw [hy269]; with_reducible exact H2_) | (have H2_ := (Option.bind_some _ _).symm.trans H; with_reducible exact H2_) | with_reducible exact H | (rw [hy269]; exact H) | exact H
                  have Ny269 := Aside0.mk hy269
                  clear hy269
                  have H' := Aside0.mk H
                  clear H
                  have hnb22 := NB264_260.out
                  have hnc22 := NB260_264.out
                  have hcz23_0 : wc.cell? ⟨gb264, 0, none⟩ = some (u265000) := (blk_cell BK264.out 0).trans rfl
                  have hcz23_1 : wc.cell? ⟨gb264, 1, none⟩ = some (u265001) := (blk_cell BK264.out 1).trans rfl
                  have hcz23_2 : wc.cell? ⟨gb264, 2, none⟩ = some (.slice Ao13 x265002_1.length co13) := (blk_cell BK264.out 2).trans rfl
                  have hcz23_3 : wc.cell? ⟨gb264, 3, none⟩ = some (u265003) := (blk_cell BK264.out 3).trans rfl
                  have hcz23_4 : wc.cell? ⟨gb264, 4, none⟩ = some (u265004) := (blk_cell BK264.out 4).trans rfl
                  have hfz23_0 := blk_frozen BK264.out 0
                  have hfz23_1 := blk_frozen BK264.out 1
                  have hfz23_2 := blk_frozen BK264.out 2
                  have hfz23_3 := blk_frozen BK264.out 3
                  have hfz23_4 := blk_frozen BK264.out 4
                  go_wp2_with (first | ((with_reducible refine gate_dst (N := 33) rfl ?_); refine Kd.R_lit (Kd.int .i64) _ 2 ?hg (N := 33) ?hd (xs := ([x14_1] : List Int)) (inner := [.int .i64 x14_1]) (ok := fun _ => True) (okp := fun _ => True) ?hr ?hp (fun _ hk => hk) trivial (Below.refl _ _) (Nat.le_refl _) (by simp) ?_; (case hd => rfl); (case hg => rfl); (case hr => first | (go_simp; done) | (go_simp; rfl)); (case hp => exact (Reps.one (show Kd.M (Kd.int .i64) _ _ _ x14_1 [.int .i64 x14_1] from rfl) (Reps.none _ _))); intro v267 w24 ho25 hb hg_ hnew_; clear hg_ hnew_; (first | rw [← Ny266.out] at ho25 | (simp only [Int.reduceToNat] at ho25; rw [← Ny266.out] at ho25)); have n0_ := Aside0.mk (Kd.R_elder' (by (with_reducible repeat (first | apply Kd.R_alloc | apply Kd.R_drewN | apply Kd.R_drew)); exact HO_265000.out) (Kd.R_base ho25) hb); have n1_ := Aside0.mk (Kd.R_elder' (by (with_reducible repeat (first | apply Kd.R_alloc | apply Kd.R_drewN | apply Kd.R_drew)); exact HO_265001.out) (Kd.R_base ho25) hb); have n2_ := Aside0.mk (Kd.R_elder' (by (with_reducible repeat (first | apply Kd.R_alloc | apply Kd.R_drewN | apply Kd.R_drew)); exact HO_265002.out) (Kd.R_base ho25) hb); have n3_ := Aside0.mk (Kd.R_elder' (by (with_reducible repeat (first | apply Kd.R_alloc | apply Kd.R_drewN | apply Kd.R_drew)); exact HO_265003.out) (Kd.R_base ho25) hb); have n4_ := Aside0.mk (Kd.R_elder' (by (with_reducible repeat (first | apply Kd.R_alloc | apply Kd.R_drewN | apply Kd.R_drew)); exact HO_265004.out) (Kd.R_base ho25) hb); have n5_ := Aside0.mk (Kd.R_lower (Kd.R_new' (Kd.R_new' (Kd.R_new' (Kd.R_new' (Kd.R_new' ho25 (Kd.R_lt (by (with_reducible repeat (first | apply Kd.R_alloc | apply Kd.R_drewN | apply Kd.R_drew)); exact HO_265000.out))) (Kd.R_lt (by (with_reducible repeat (first | apply Kd.R_alloc | apply Kd.R_drewN | apply Kd.R_drew)); exact HO_265001.out))) (Kd.R_lt (by (with_reducible repeat (first | apply Kd.R_alloc | apply Kd.R_drewN | apply Kd.R_drew)); exact HO_265002.out))) (Kd.R_lt (by (with_reducible repeat (first | apply Kd.R_alloc | apply Kd.R_drewN | apply Kd.R_drew)); exact HO_265003.out))) (Kd.R_lt (by (with_reducible repeat (first | apply Kd.R_alloc | apply Kd.R_drewN | apply Kd.R_drew)); exact HO_265004.out))) (below_size (by repeat (first | (with_reducible first | exact HB.out | apply below_alloc | apply pw_below_drewN | apply below_drew1 | refine below_set ?_ GE260.out | refine below_set ?_ GE264.out) | exact HB.out)))); have n6_ := Aside0.mk (blk_below (g := gb260) (o := .cells #[.slice none 0 0, .slice none 0 0, .slice none 0 0, .slice none 0 0, .slice none 0 0] 60 (0, 0)) (by (with_reducible repeat (first | refine blk_drewN ?_ _ | refine blk_drew ?_ | refine blk_alloc ?_ _)); exact BK260.out) hb); have n7_ := Aside0.mk (blk_below (g := gb264) (o := .cells #[u265000, u265001, .slice Ao13 x265002_1.length co13, u265003, u265004] 60 (0, 0)) (by (with_reducible repeat (first | refine blk_drewN ?_ _ | refine blk_drew ?_ | refine blk_alloc ?_ _)); exact BK264.out) hb); have n8_ := Aside0.mk (below_step (by repeat (first | (with_reducible first | exact HB.out | apply below_alloc | apply pw_below_drewN | apply below_drew1 | refine below_set ?_ GE260.out | refine below_set ?_ GE264.out) | exact HB.out)) hb); clear HO_265000; clear HO_265001; clear HO_265002; clear HO_265003; clear HO_265004; clear BK260; clear BK264; clear HB; have HO_265000 := n0_; have HO_265001 := n1_; have HO_265002 := n2_; have HO_265003 := n3_; have HO_265004 := n4_; have HO268 := n5_; have BK260 := n6_; have BK264 := n7_; have HB := n8_; clear n0_ n1_ n2_ n3_ n4_ n5_ n6_ n7_ n8_; clear hb ho25; obtain ⟨Ao27, co27, eo27⟩ := Kd.R_slice HO268.out; subst eo27) | ((with_reducible refine gate_builtin (b := .append) (xs := #[.tmp 31, .tmp 33]) rfl ?_); at_builtin; refine Kd.R_append_rows (Kd.int .i64) (w0 := w) w.heap.size rfl (.tmp 31) (.tmp 33) 33 2 (.int .i64 0) 8 rfl Try.underlying33 info2 rfl (by decide) (by omega) u265001 x265001_1 y266 _ _ _ (fun k_ => some k_ ≠ (u265000 : Value).ownBlock ∧ some k_ ≠ (.slice Ao13 x265002_1.length co13 : Value).ownBlock ∧ some k_ ≠ (u265003 : Value).ownBlock ∧ some k_ ≠ (u265004 : Value).ownBlock ∧ some k_ ≠ (.slice Ao27 y266.length co27 : Value).ownBlock) (fun _ => False) rfl rfl ?aO ?aR (fun _ _ h => h) (fun _ h => h.elim) ?aF ?aB ?aS ?aL ?_; (case aR => repeat (first | exact (Kd.R_reads' HO268.out).2.2 | (with_reducible refine Kd.C_alloc ?_ _) | (with_reducible refine Kd.C_drewN ?_ _) | (with_reducible refine Kd.C_drew ?_))); (case aB => exact (by repeat (first | (with_reducible first | exact HB.out | apply below_alloc | apply pw_below_drewN | apply below_drew1 | refine below_set ?_ GE260.out | refine below_set ?_ GE264.out) | exact HB.out))); (case aF => exact (fun k_ hk => ⟨Kd.fresh' (Kd.R_lt (by (with_reducible repeat (first | apply Kd.R_alloc | apply Kd.R_drewN | apply Kd.R_drew)); exact HO_265000.out)) k_ hk, Kd.fresh' (Kd.R_lt (by (with_reducible repeat (first | apply Kd.R_alloc | apply Kd.R_drewN | apply Kd.R_drew)); exact HO_265002.out)) k_ hk, Kd.fresh' (Kd.R_lt (by (with_reducible repeat (first | apply Kd.R_alloc | apply Kd.R_drewN | apply Kd.R_drew)); exact HO_265003.out)) k_ hk, Kd.fresh' (Kd.R_lt (by (with_reducible repeat (first | apply Kd.R_alloc | apply Kd.R_drewN | apply Kd.R_drew)); exact HO_265004.out)) k_ hk, Kd.fresh' (Kd.R_lt (by (with_reducible repeat (first | apply Kd.R_alloc | apply Kd.R_drewN | apply Kd.R_drew)); exact HO268.out)) k_ hk⟩)); (case aO => exact (by (with_reducible repeat (first | apply Kd.R_alloc | apply Kd.R_drewN | apply Kd.R_drew)); exact Kd.R_mono HO_265001.out (fun _ hk => ⟨hk.1.1, ⟨hk.1.2.1, ⟨hk.1.2.2.1, ⟨hk.1.2.2.2, hk.2⟩⟩⟩⟩))); (case aS => exact (below_size (by repeat (first | (with_reducible first | exact HB.out | apply below_alloc | apply pw_below_drewN | apply below_drew1 | refine below_set ?_ GE260.out | refine below_set ?_ GE264.out) | exact HB.out)))); (case aL => have := LMc21.out; omega); intro v270 w26 ho hb hg hat; rw [← Ny269.out] at ho; have n0_ := Aside0.mk (Kd.R_after (ok := (fun k_ => some k_ ≠ (.slice Ao13 x265002_1.length co13 : Value).ownBlock ∧ some k_ ≠ (u265003 : Value).ownBlock ∧ some k_ ≠ (u265004 : Value).ownBlock ∧ some k_ ≠ (.slice Ao27 y266.length co27 : Value).ownBlock)) (by (with_reducible repeat (first | apply Kd.R_alloc | apply Kd.R_drewN | apply Kd.R_drew)); exact Kd.R_mono HO_265000.out (fun _ hk => ⟨⟨hk.1.2.1, ⟨hk.1.2.2.1, ⟨hk.1.2.2.2, hk.2⟩⟩⟩, hk.1.1⟩)) hg hat); have n1_ := Aside0.mk (Kd.R_after (ok := (fun k_ => some k_ ≠ (u265000 : Value).ownBlock ∧ some k_ ≠ (u265003 : Value).ownBlock ∧ some k_ ≠ (u265004 : Value).ownBlock ∧ some k_ ≠ (.slice Ao27 y266.length co27 : Value).ownBlock)) (by (with_reducible repeat (first | apply Kd.R_alloc | apply Kd.R_drewN | apply Kd.R_drew)); exact Kd.R_mono HO_265002.out (fun _ hk => ⟨⟨hk.1.1, ⟨hk.1.2.2.1, ⟨hk.1.2.2.2, hk.2⟩⟩⟩, hk.1.2.1⟩)) hg hat); have n2_ := Aside0.mk (Kd.R_after (ok := (fun k_ => some k_ ≠ (u265000 : Value).ownBlock ∧ some k_ ≠ (.slice Ao13 x265002_1.length co13 : Value).ownBlock ∧ some k_ ≠ (u265004 : Value).ownBlock ∧ some k_ ≠ (.slice Ao27 y266.length co27 : Value).ownBlock)) (by (with_reducible repeat (first | apply Kd.R_alloc | apply Kd.R_drewN | apply Kd.R_drew)); exact Kd.R_mono HO_265003.out (fun _ hk => ⟨⟨hk.1.1, ⟨hk.1.2.2.1, ⟨hk.1.2.2.2, hk.2⟩⟩⟩, hk.1.2.1⟩)) hg hat); have n3_ := Aside0.mk (Kd.R_after (ok := (fun k_ => some k_ ≠ (u265000 : Value).ownBlock ∧ some k_ ≠ (.slice Ao13 x265002_1.length co13 : Value).ownBlock ∧ some k_ ≠ (u265003 : Value).ownBlock ∧ some k_ ≠ (.slice Ao27 y266.length co27 : Value).ownBlock)) (by (with_reducible repeat (first | apply Kd.R_alloc | apply Kd.R_drewN | apply Kd.R_drew)); exact Kd.R_mono HO_265004.out (fun _ hk => ⟨⟨hk.1.1, ⟨hk.1.2.2.1, ⟨hk.1.2.2.2, hk.2⟩⟩⟩, hk.1.2.1⟩)) hg hat); have n4_ := Aside0.mk (blk_grown (g := gb260) (o := .cells #[.slice none 0 0, .slice none 0 0, .slice none 0 0, .slice none 0 0, .slice none 0 0] 60 (0, 0)) (by (with_reducible repeat (first | refine blk_drewN ?_ _ | refine blk_drew ?_ | refine blk_alloc ?_ _)); exact BK260.out) hg (Kd.R_ne HO_265001.out BK260.out (by decide))); have n5_ := Aside0.mk (blk_grown (g := gb264) (o := .cells #[u265000, u265001, .slice Ao13 x265002_1.length co13, u265003, u265004] 60 (0, 0)) (by (with_reducible repeat (first | refine blk_drewN ?_ _ | refine blk_drew ?_ | refine blk_alloc ?_ _)); exact BK264.out) hg (Kd.R_ne HO_265001.out BK264.out (by decide))); have n6_ := Aside0.mk (Kd.R_after (ok := (fun k_ => some k_ ≠ (u265000 : Value).ownBlock ∧ some k_ ≠ (.slice Ao13 x265002_1.length co13 : Value).ownBlock ∧ some k_ ≠ (u265003 : Value).ownBlock ∧ some k_ ≠ (u265004 : Value).ownBlock)) (by (with_reducible repeat (first | apply Kd.R_alloc | apply Kd.R_drewN | apply Kd.R_drew)); exact Kd.R_mono HO268.out (fun _ hk => ⟨⟨hk.1.1.1.1.2, ⟨hk.1.1.2, ⟨hk.1.2, hk.2⟩⟩⟩, hk.1.1.1.2⟩)) hg hat); have n7_ := Aside0.mk (hb); have n8_ := Aside0.mk (ho); clear HO_265000; clear HO_265002; clear HO_265003; clear HO_265004; clear BK260; clear BK264; clear HO268; clear HB; clear HO_265001; have HO_265000 := n0_; have HO_265002 := n1_; have HO_265003 := n2_; have HO_265004 := n3_; have BK260 := n4_; have BK264 := n5_; have HO268 := n6_; have HB := n7_; have HO271 := n8_; clear n0_ n1_ n2_ n3_ n4_ n5_ n6_ n7_ n8_; clear ho hb hg hat; obtain ⟨Ao28, co28, eo28⟩ := Kd.R_slice HO271.out; subst eo28; have hcz29_0 : w26.cell? ⟨gb264, 0, none⟩ = some (u265000) := (blk_cell BK264.out 0).trans rfl; have hcz29_1 : w26.cell? ⟨gb264, 1, none⟩ = some (u265001) := (blk_cell BK264.out 1).trans rfl; have hcz29_2 : w26.cell? ⟨gb264, 2, none⟩ = some (.slice Ao13 x265002_1.length co13) := (blk_cell BK264.out 2).trans rfl; have hcz29_3 : w26.cell? ⟨gb264, 3, none⟩ = some (u265003) := (blk_cell BK264.out 3).trans rfl; have hcz29_4 : w26.cell? ⟨gb264, 4, none⟩ = some (u265004) := (blk_cell BK264.out 4).trans rfl; have hfz29_0 := blk_frozen BK264.out 0; have hfz29_1 := blk_frozen BK264.out 1; have hfz29_2 := blk_frozen BK264.out 2; have hfz29_3 := blk_frozen BK264.out 3; have hfz29_4 := blk_frozen BK264.out 4))
                  go_meet
                  case rel => exact ⟨_, ((-2)), (x265000_1), (y269), (x265002_1), (x265003_1), (x265004_1), (u265000), (.slice Ao28 y269.length co28), (.slice Ao13 x265002_1.length co13), (u265003), (u265004), (by first | rfl | (simp; done) | (simp [*]; done)), H', ⟨by have := HK1.out; have := HJ13.out; first | omega | exact Nat.le_refl _⟩, ⟨by (with_reducible repeat (first | apply Kd.R_alloc | apply Kd.R_drewN | apply Kd.R_drew)); exact Kd.R_mono (Kd.R_far (p := ⟨gb264, 1, none⟩) (Kd.R_types HO_265000.out BK264.out (by decide)) (fun _ hk => hk.2) (.slice Ao28 y269.length co28)) (fun _ hk => ⟨hk.1.2, ⟨hk.1.1.1, ⟨hk.1.1.2.1, hk.1.1.2.2.1⟩⟩⟩)⟩, ⟨by (with_reducible repeat (first | apply Kd.R_alloc | apply Kd.R_drewN | apply Kd.R_drew)); exact Kd.R_mono (Kd.R_far (p := ⟨gb264, 1, none⟩) (Kd.R_types HO271.out BK264.out (by decide)) (fun _ hk => hk.2) (.slice Ao28 y269.length co28)) (fun _ hk => ⟨hk.1.1, ⟨hk.1.2.1, ⟨hk.1.2.2.1, hk.1.2.2.2.1⟩⟩⟩)⟩, ⟨by (with_reducible repeat (first | apply Kd.R_alloc | apply Kd.R_drewN | apply Kd.R_drew)); exact Kd.R_mono (Kd.R_far (p := ⟨gb264, 1, none⟩) (Kd.R_types HO_265002.out BK264.out (by decide)) (fun _ hk => hk.2) (.slice Ao28 y269.length co28)) (fun _ hk => ⟨hk.1.1.1, ⟨hk.1.2, ⟨hk.1.1.2.1, hk.1.1.2.2.1⟩⟩⟩)⟩, ⟨by (with_reducible repeat (first | apply Kd.R_alloc | apply Kd.R_drewN | apply Kd.R_drew)); exact Kd.R_mono (Kd.R_far (p := ⟨gb264, 1, none⟩) (Kd.R_types HO_265003.out BK264.out (by decide)) (fun _ hk => hk.2) (.slice Ao28 y269.length co28)) (fun _ hk => ⟨hk.1.1.1, ⟨hk.1.2, ⟨hk.1.1.2.1, hk.1.1.2.2.1⟩⟩⟩)⟩, ⟨by (with_reducible repeat (first | apply Kd.R_alloc | apply Kd.R_drewN | apply Kd.R_drew)); exact Kd.R_mono (Kd.R_far (p := ⟨gb264, 1, none⟩) (Kd.R_types HO_265004.out BK264.out (by decide)) (fun _ hk => hk.2) (.slice Ao28 y269.length co28)) (fun _ hk => ⟨hk.1.1.1, ⟨hk.1.2, ⟨hk.1.1.2.1, hk.1.1.2.2.1⟩⟩⟩)⟩, ⟨by (with_reducible repeat (first | refine blk_drewN ?_ _ | refine blk_drew ?_ | refine blk_alloc ?_ _)); refine blk_far ?_ NB260_264.out _; (with_reducible repeat (first | refine blk_drewN ?_ _ | refine blk_drew ?_ | refine blk_alloc ?_ _)); exact BK260.out⟩, ⟨by (with_reducible repeat (first | refine blk_drewN ?_ _ | refine blk_drew ?_ | refine blk_alloc ?_ _)); refine blk_put (cs := #[u265000, u265001, .slice Ao13 x265002_1.length co13, u265003, u265004]) ?_ 1 _ rfl; (with_reducible repeat (first | refine blk_drewN ?_ _ | refine blk_drew ?_ | refine blk_alloc ?_ _)); exact BK264.out⟩, ⟨by repeat (first | (with_reducible first | exact HB.out | apply below_alloc | apply pw_below_drewN | apply below_drew1 | refine below_set ?_ GE260.out | refine below_set ?_ GE264.out) | exact HB.out)⟩⟩
                · rw [if_neg c21] at H
                  exact absurd H (by simp)
              · replace c20 := Bool.eq_false_iff.mpr c20
                subst c20
                have H1 : (if 0 ≤ x14_1 then (if x14_1 < (a0.size : Int) then ((impl_isReturn.f (bt a0 x14_1)).bind fun t272 => (if t272 = true then (if 0 ≤ (wrap64 ((x265002_1.length : Int) - 1)) then (if (wrap64 ((x265002_1.length : Int) - 1)) < (x265002_1.length : Int) then (if 0 ≤ (rd x265002_1 (wrap64 ((x265002_1.length : Int) - 1))) then (if (rd x265002_1 (wrap64 ((x265002_1.length : Int) - 1))) < (x265000_1.length : Int) then (if (wrap64 ((x265002_1.length : Int) - 1)) ≤ (x265002_1.length : Int) then (impl_match.j2 kj13 a0 x14_1 x14_1 (rd x265002_1 (wrap64 ((x265002_1.length : Int) - 1))) (a0.size : Int) x14_1 (x265000_1.set ((rd x265002_1 (wrap64 ((x265002_1.length : Int) - 1))) : Int).toNat x14_1) x265001_1 (x265002_1.take ((wrap64 ((x265002_1.length : Int) - 1)) : Int).toNat) x265003_1 x265004_1) else (none)) else (none)) else (none)) else (none)) else (none)) else (impl_match.j2 kj13 a0 x14_1 x14_1 (-1) (a0.size : Int) x14_1 x265000_1 x265001_1 x265002_1 x265003_1 x265004_1))) else (none)) else (none)) = some (r1, r2, r3, r4, r5) := by rw [if_neg (show ¬ (false = true) by decide)] at H; exact H
                clear H
                have H := H1
                clear H1
                by_cases c30 : 0 ≤ x14_1
                · rw [if_pos c30] at H
                  have c30b0 : decide (0 ≤ x14_1) = true := decide_eq_true c30
                  clear c30
                  by_cases c31 : x14_1 < (a0.size : Int)
                  · rw [if_pos c31] at H
                    have c31b0 : decide (x14_1 < (a0.size : Int)) = true := decide_eq_true c31
                    clear c31
                    replace H := Option.bind_eq_some_iff.mp H
                    obtain ⟨t272, A330, H⟩ := H
                    replace H : (if t272 = true then (if 0 ≤ (wrap64 ((x265002_1.length : Int) - 1)) then (if (wrap64 ((x265002_1.length : Int) - 1)) < (x265002_1.length : Int) then (if 0 ≤ (rd x265002_1 (wrap64 ((x265002_1.length : Int) - 1))) then (if (rd x265002_1 (wrap64 ((x265002_1.length : Int) - 1))) < (x265000_1.length : Int) then (if (wrap64 ((x265002_1.length : Int) - 1)) ≤ (x265002_1.length : Int) then (impl_match.j2 kj13 a0 x14_1 x14_1 (rd x265002_1 (wrap64 ((x265002_1.length : Int) - 1))) (a0.size : Int) x14_1 (x265000_1.set ((rd x265002_1 (wrap64 ((x265002_1.length : Int) - 1))) : Int).toNat x14_1) x265001_1 (x265002_1.take ((wrap64 ((x265002_1.length : Int) - 1)) : Int).toNat) x265003_1 x265004_1) else (none)) else (none)) else (none)) else (none)) else (none)) else (impl_match.j2 kj13 a0 x14_1 x14_1 (-1) (a0.size : Int) x14_1 x265000_1 x265001_1 x265002_1 x265003_1 x265004_1)) = some (r1, r2, r3, r4, r5) := H
                    have A33 := Aside0.mk A330
                    clear A330
                    by_cases c34 : t272 = true
                    · subst c34
                      have H1 : (if 0 ≤ (wrap64 ((x265002_1.length : Int) - 1)) then (if (wrap64 ((x265002_1.length : Int) - 1)) < (x265002_1.length : Int) then (if 0 ≤ (rd x265002_1 (wrap64 ((x265002_1.length : Int) - 1))) then (if (rd x265002_1 (wrap64 ((x265002_1.length : Int) - 1))) < (x265000_1.length : Int) then (if (wrap64 ((x265002_1.length : Int) - 1)) ≤ (x265002_1.length : Int) then (impl_match.j2 kj13 a0 x14_1 x14_1 (rd x265002_1 (wrap64 ((x265002_1.length : Int) - 1))) (a0.size : Int) x14_1 (x265000_1.set ((rd x265002_1 (wrap64 ((x265002_1.length : Int) - 1))) : Int).toNat x14_1) x265001_1 (x265002_1.take ((wrap64 ((x265002_1.length : Int) - 1)) : Int).toNat) x265003_1 x265004_1) else (none)) else (none)) else (none)) else (none)) else (none)) = some (r1, r2, r3, r4, r5) := by rw [if_pos rfl] at H; exact H
                      clear H
                      have H := H1
                      clear H1
                      obtain ⟨ji35, hji35⟩ : ∃ j_ : Int, (wrap64 ((x265002_1.length : Int) - 1)) = j_ := ⟨_, rfl⟩
                      replace H : (if 0 ≤ (ji35) then (if (ji35) < (x265002_1.length : Int) then (if 0 ≤ (rd x265002_1 (ji35)) then (if (rd x265002_1 (ji35)) < (x265000_1.length : Int) then (if (ji35) ≤ (x265002_1.length : Int) then (impl_match.j2 kj13 a0 x14_1 x14_1 (rd x265002_1 (ji35)) (a0.size : Int) x14_1 (x265000_1.set ((rd x265002_1 (ji35)) : Int).toNat x14_1) x265001_1 (x265002_1.take ((ji35) : Int).toNat) x265003_1 x265004_1) else (none)) else (none)) else (none)) else (none)) else (none)) = some (r1, r2, r3, r4, r5) := by first | (rw [hji35] at H; exact H) | (simp only [hji35] at H ⊢; exact H)
                      (try rw [hji35] at A33)
                      have hji35w : (IntKind.i64.wrap ((x265002_1.length : Int) - 1)) = ji35 := (i64_w _).trans hji35
                      by_cases c36 : 0 ≤ (ji35)
                      · rw [if_pos c36] at H
                        have c36b0 : decide (0 ≤ (ji35)) = true := decide_eq_true c36
                        clear c36
                        by_cases c37 : (ji35) < (x265002_1.length : Int)
                        · rw [if_pos c37] at H
                          have c37b0 : decide ((ji35) < (x265002_1.length : Int)) = true := decide_eq_true c37
                          clear c37
                          by_cases c38 : 0 ≤ (rd x265002_1 (ji35))
                          · rw [if_pos c38] at H
                            have c38b0 : decide (0 ≤ (rd x265002_1 (ji35))) = true := decide_eq_true c38
                            clear c38
                            by_cases c39 : (rd x265002_1 (ji35)) < (x265000_1.length : Int)
                            · rw [if_pos c39] at H
                              have c39b0 : decide ((rd x265002_1 (ji35)) < (x265000_1.length : Int)) = true := decide_eq_true c39
                              clear c39
                              obtain ⟨y274, hy274⟩ : ∃ y_ : List Int, y_ = (x265000_1.set ((rd x265002_1 (ji35)) : Int).toNat x14_1) := ⟨_, rfl⟩
                              replace H : (if (ji35) ≤ (x265002_1.length : Int) then (impl_match.j2 kj13 a0 x14_1 x14_1 (rd x265002_1 (ji35)) (a0.size : Int) x14_1 y274 x265001_1 (x265002_1.take ((ji35) : Int).toNat) x265003_1 x265004_1) else (none)) = some (r1, r2, r3, r4, r5) := by first | (rw [hy274]; with_reducible exact H) | (have H2_ := (Option.bind_some _ _).symm.trans H; rw [hy274]; with_reducible exact H2_) | (have H2_ := (Option.bind_some _ _).symm.trans H; with_reducible exact H2_) | with_reducible exact H | (rw [hy274]; exact H) | exact H
                              have Ny274 := Aside0.mk hy274
                              clear hy274
                              by_cases c41 : (ji35) ≤ (x265002_1.length : Int)
                              · rw [if_pos c41] at H
                                have c41b0 := eq_true c41
                                have c41b1 : decide ((ji35) ≤ (x265002_1.length : Int)) = true := decide_eq_true c41
                                clear c41
                                obtain ⟨y275, hy275⟩ : ∃ y_ : List Int, y_ = (x265002_1.take ((ji35) : Int).toNat) := ⟨_, rfl⟩
                                replace H : (impl_match.j2 kj13 a0 x14_1 x14_1 (rd x265002_1 (ji35)) (a0.size : Int) x14_1 y274 x265001_1 y275 x265003_1 x265004_1) = some (r1, r2, r3, r4, r5) := by first | (rw [hy275]; with_reducible exact H) | (have H2_ := (Option.bind_some _ _).symm.trans H; rw [hy275]; with_reducible exact H2_) | (have H2_ := (Option.bind_some _ _).symm.trans H; with_reducible exact H2_) | with_reducible exact H | (rw [hy275]; exact H) | exact H
                                have Ny275 := Aside0.mk hy275
                                clear hy275
                                have H' := Aside0.mk H
                                clear H
                                have p32 : 0 ≤ (x14_1 : Int) := of_decide_eq_true (by first | (with_reducible assumption) | assumption)
                                have q32 : x14_1 < (a0.size : Int) := of_decide_eq_true (by first | (with_reducible assumption) | assumption)
                                have hx32 := bt_at a0 x14_1
                                replace p32 := eq_true p32
                                replace q32 := eq_true q32
                                go_wp2_with (first | ((with_reducible refine gate_callee (f := 51) rfl ?_); refine goesL_ (some 40) rfl rfl Try.func51 (by kernel_rfl) rfl #[.int .u8 (bt a0 x14_1)] rfl (by (try simp only [List.map_toArray, List.map_cons, List.map_nil]); first | done | rfl | (simp only [List.length_drop, List.length_take]; rfl)) ?_; (with_reducible refine (impl_isReturn.calls (bt a0 x14_1) true _ A33.out).mono ?_); rintro e w' ⟨rfl, ⟨nd, rfl⟩⟩; refine ⟨_, rfl, ?_⟩; (try (rw [drewN_self wc]; generalize hq_ : World.drewN wc _ = wc; have n0_ : Aside0 (Kd.R (Kd.int .i64) 2 wc w.heap.size (fun k_ => some k_ ≠ (u265001 : Value).ownBlock ∧ some k_ ≠ (.slice Ao13 x265002_1.length co13 : Value).ownBlock ∧ some k_ ≠ (u265003 : Value).ownBlock ∧ some k_ ≠ (u265004 : Value).ownBlock) u265000 x265000_1) := ⟨by rw [← hq_]; exact (by (with_reducible repeat (first | apply Kd.R_alloc | apply Kd.R_drewN | apply Kd.R_drew)); exact HO_265000.out)⟩; have n1_ : Aside0 (Kd.R (Kd.int .i64) 2 wc w.heap.size (fun k_ => some k_ ≠ (u265000 : Value).ownBlock ∧ some k_ ≠ (.slice Ao13 x265002_1.length co13 : Value).ownBlock ∧ some k_ ≠ (u265003 : Value).ownBlock ∧ some k_ ≠ (u265004 : Value).ownBlock) u265001 x265001_1) := ⟨by rw [← hq_]; exact (by (with_reducible repeat (first | apply Kd.R_alloc | apply Kd.R_drewN | apply Kd.R_drew)); exact HO_265001.out)⟩; have n2_ : Aside0 (Kd.R (Kd.int .i64) 2 wc w.heap.size (fun k_ => some k_ ≠ (u265000 : Value).ownBlock ∧ some k_ ≠ (u265001 : Value).ownBlock ∧ some k_ ≠ (u265003 : Value).ownBlock ∧ some k_ ≠ (u265004 : Value).ownBlock) (.slice Ao13 x265002_1.length co13) x265002_1) := ⟨by rw [← hq_]; exact (by (with_reducible repeat (first | apply Kd.R_alloc | apply Kd.R_drewN | apply Kd.R_drew)); exact HO_265002.out)⟩; have n3_ : Aside0 (Kd.R (Kd.int .i64) 2 wc w.heap.size (fun k_ => some k_ ≠ (u265000 : Value).ownBlock ∧ some k_ ≠ (u265001 : Value).ownBlock ∧ some k_ ≠ (.slice Ao13 x265002_1.length co13 : Value).ownBlock ∧ some k_ ≠ (u265004 : Value).ownBlock) u265003 x265003_1) := ⟨by rw [← hq_]; exact (by (with_reducible repeat (first | apply Kd.R_alloc | apply Kd.R_drewN | apply Kd.R_drew)); exact HO_265003.out)⟩; have n4_ : Aside0 (Kd.R (Kd.int .i64) 2 wc w.heap.size (fun k_ => some k_ ≠ (u265000 : Value).ownBlock ∧ some k_ ≠ (u265001 : Value).ownBlock ∧ some k_ ≠ (.slice Ao13 x265002_1.length co13 : Value).ownBlock ∧ some k_ ≠ (u265003 : Value).ownBlock) u265004 x265004_1) := ⟨by rw [← hq_]; exact (by (with_reducible repeat (first | apply Kd.R_alloc | apply Kd.R_drewN | apply Kd.R_drew)); exact HO_265004.out)⟩; have n5_ : Aside0 (wc.heap[gb260]? = some (.cells #[.slice none 0 0, .slice none 0 0, .slice none 0 0, .slice none 0 0, .slice none 0 0] 60 (0, 0))) := ⟨by rw [← hq_]; exact (by (with_reducible repeat (first | refine blk_drewN ?_ _ | refine blk_drew ?_ | refine blk_alloc ?_ _)); exact BK260.out)⟩; have n6_ : Aside0 (wc.heap[gb264]? = some (.cells #[u265000, u265001, .slice Ao13 x265002_1.length co13, u265003, u265004] 60 (0, 0))) := ⟨by rw [← hq_]; exact (by (with_reducible repeat (first | refine blk_drewN ?_ _ | refine blk_drew ?_ | refine blk_alloc ?_ _)); exact BK264.out)⟩; have n7_ : Aside0 (Below w.heap.size w wc) := ⟨by rw [← hq_]; exact (by repeat (first | (with_reducible first | exact HB.out | apply below_alloc | apply pw_below_drewN | apply below_drew1 | refine below_set ?_ GE260.out | refine below_set ?_ GE264.out) | exact HB.out))⟩; clear HO_265000 HO_265001 HO_265002 HO_265003 HO_265004 BK260 BK264 HB hq_; have HO_265000 := n0_; have HO_265001 := n1_; have HO_265002 := n2_; have HO_265003 := n3_; have HO_265004 := n4_; have BK260 := n5_; have BK264 := n6_; have HB := n7_; clear n0_ n1_ n2_ n3_ n4_ n5_ n6_ n7_)); have hnb42 := NB264_260.out; have hnc42 := NB260_264.out; have hcz43_0 : wc.cell? ⟨gb264, 0, none⟩ = some (u265000) := (blk_cell BK264.out 0).trans rfl; have hcz43_1 : wc.cell? ⟨gb264, 1, none⟩ = some (u265001) := (blk_cell BK264.out 1).trans rfl; have hcz43_2 : wc.cell? ⟨gb264, 2, none⟩ = some (.slice Ao13 x265002_1.length co13) := (blk_cell BK264.out 2).trans rfl; have hcz43_3 : wc.cell? ⟨gb264, 3, none⟩ = some (u265003) := (blk_cell BK264.out 3).trans rfl; have hcz43_4 : wc.cell? ⟨gb264, 4, none⟩ = some (u265004) := (blk_cell BK264.out 4).trans rfl; have hfz43_0 := blk_frozen BK264.out 0; have hfz43_1 := blk_frozen BK264.out 1; have hfz43_2 := blk_frozen BK264.out 2; have hfz43_3 := blk_frozen BK264.out 3; have hfz43_4 := blk_frozen BK264.out 4; have p273 : 0 ≤ ((ji35) : Int) := of_decide_eq_true (by first | (with_reducible assumption) | assumption); have q273 : (ji35) < (x265002_1.length : Int) := of_decide_eq_true (by first | (with_reducible assumption) | assumption); obtain ⟨ad273, e273, hx273_0⟩ := Kd.at_int (Kd.R_reads' HO_265002.out).2.2 (ji35) p273 q273; cases e273; replace p273 := eq_true p273; replace q273 := eq_true q273; have p40 : 0 ≤ ((rd x265002_1 (ji35)) : Int) := of_decide_eq_true (by first | (with_reducible assumption) | assumption); have q40 : ((rd x265002_1 (ji35)) : Int) < ((x265000_1.length : Int) : Int) := of_decide_eq_true (by first | (with_reducible assumption) | assumption); obtain ⟨go40, co40, eo40, gb40, gl40, cl40, HG40⟩ := Kd.R_form HO_265000.out (by omega); (first | cases eo40 | (injection eo40 with ea_ en_ ec_; (first | subst ea_ | (injection ea_ with ea_; subst ea_)); subst ec_; clear en_)); have GB40 := Aside0.mk gb40; have GG40 := Aside0.mk HG40; clear gb40 gl40 HG40; obtain ⟨hx40_0, hf40_0⟩ := Kd.R_celln 0 HO_265000.out ((rd x265002_1 (ji35)) : Int) p40 q40; replace p40 := eq_true p40; replace q40 := eq_true q40; obtain ⟨hy44_, hz44_⟩ := Kd.R_celln 0 HO_265000.out ((rd x265002_1 (ji35)) : Int) (of_decide_eq_true (by first | (with_reducible assumption) | assumption)) (of_decide_eq_true (by first | (with_reducible assumption) | assumption)); have HP44 := Kd.R_putg HO_265000.out ((rd x265002_1 (ji35)) : Int) x14_1) | ((with_reducible refine gate_store (t := 2) (p := 51) rfl ?_); refine store_event (t := 2) (p := 51) (v := ?vo_w45) (w1 := (wc.setCell ⟨go40, ((rd x265002_1 (ji35)) : Int).toNat, none⟩ (.int .i64 x14_1))) ?hg ?ho ?hn ?hr ?_; (case ho => rfl); (case hg => rfl); (case hn => rfl); (case hr => first | (go_simp; done) | (go_simp; rfl)); intro w45 hw; have hg : wc.grownBy w45 (some go40) := (by rw [hw]; exact HP44.2); have hp_ : Kd.R (Kd.int .i64) 2 w45 w.heap.size (fun k_ => some k_ ≠ (u265001 : Value).ownBlock ∧ some k_ ≠ (.slice (some ad273) x265002_1.length co13 : Value).ownBlock ∧ some k_ ≠ (u265003 : Value).ownBlock ∧ some k_ ≠ (u265004 : Value).ownBlock) (.slice (some ⟨go40, 0, none⟩) x265000_1.length co40) y274 := (by rw [hw, Ny274.out]; exact HP44.1); clear HP44; have n0_ := Aside0.mk (hp_); have n1_ := Aside0.mk (Kd.R_after (v := (.slice (some ⟨go40, 0, none⟩) x265000_1.length co40)) (v1 := (.slice (some ⟨go40, 0, none⟩) x265000_1.length co40)) (ok := (fun k_ => some k_ ≠ (.slice (some ad273) x265002_1.length co13 : Value).ownBlock ∧ some k_ ≠ (u265003 : Value).ownBlock ∧ some k_ ≠ (u265004 : Value).ownBlock)) (by (with_reducible repeat (first | apply Kd.R_alloc | apply Kd.R_drewN | apply Kd.R_drew)); exact Kd.R_mono HO_265001.out (fun _ hk => ⟨⟨hk.2.1, ⟨hk.2.2.1, hk.2.2.2⟩⟩, hk.1⟩)) hg (.inl rfl)); have n2_ := Aside0.mk (Kd.R_after (v := (.slice (some ⟨go40, 0, none⟩) x265000_1.length co40)) (v1 := (.slice (some ⟨go40, 0, none⟩) x265000_1.length co40)) (ok := (fun k_ => some k_ ≠ (u265001 : Value).ownBlock ∧ some k_ ≠ (u265003 : Value).ownBlock ∧ some k_ ≠ (u265004 : Value).ownBlock)) (by (with_reducible repeat (first | apply Kd.R_alloc | apply Kd.R_drewN | apply Kd.R_drew)); exact Kd.R_mono HO_265002.out (fun _ hk => ⟨⟨hk.2.1, ⟨hk.2.2.1, hk.2.2.2⟩⟩, hk.1⟩)) hg (.inl rfl)); have n3_ := Aside0.mk (Kd.R_after (v := (.slice (some ⟨go40, 0, none⟩) x265000_1.length co40)) (v1 := (.slice (some ⟨go40, 0, none⟩) x265000_1.length co40)) (ok := (fun k_ => some k_ ≠ (u265001 : Value).ownBlock ∧ some k_ ≠ (.slice (some ad273) x265002_1.length co13 : Value).ownBlock ∧ some k_ ≠ (u265004 : Value).ownBlock)) (by (with_reducible repeat (first | apply Kd.R_alloc | apply Kd.R_drewN | apply Kd.R_drew)); exact Kd.R_mono HO_265003.out (fun _ hk => ⟨⟨hk.2.1, ⟨hk.2.2.1, hk.2.2.2⟩⟩, hk.1⟩)) hg (.inl rfl)); have n4_ := Aside0.mk (Kd.R_after (v := (.slice (some ⟨go40, 0, none⟩) x265000_1.length co40)) (v1 := (.slice (some ⟨go40, 0, none⟩) x265000_1.length co40)) (ok := (fun k_ => some k_ ≠ (u265001 : Value).ownBlock ∧ some k_ ≠ (.slice (some ad273) x265002_1.length co13 : Value).ownBlock ∧ some k_ ≠ (u265003 : Value).ownBlock)) (by (with_reducible repeat (first | apply Kd.R_alloc | apply Kd.R_drewN | apply Kd.R_drew)); exact Kd.R_mono HO_265004.out (fun _ hk => ⟨⟨hk.2.1, ⟨hk.2.2.1, hk.2.2.2⟩⟩, hk.1⟩)) hg (.inl rfl)); have n5_ := Aside0.mk (blk_grown (g := gb260) (o := .cells #[.slice none 0 0, .slice none 0 0, .slice none 0 0, .slice none 0 0, .slice none 0 0] 60 (0, 0)) (by (with_reducible repeat (first | refine blk_drewN ?_ _ | refine blk_drew ?_ | refine blk_alloc ?_ _)); exact BK260.out) hg (Kd.R_ne HO_265000.out BK260.out (by decide))); have n6_ := Aside0.mk (blk_grown (g := gb264) (o := .cells #[.slice (some ⟨go40, 0, none⟩) x265000_1.length co40, u265001, .slice (some ad273) x265002_1.length co13, u265003, u265004] 60 (0, 0)) (by (with_reducible repeat (first | refine blk_drewN ?_ _ | refine blk_drew ?_ | refine blk_alloc ?_ _)); exact BK264.out) hg (Kd.R_ne HO_265000.out BK264.out (by decide))); have n7_ := Aside0.mk ((by rw [hw]; exact below_set (HB.out) GB40.out : Below w.heap.size w w45)); clear HO_265000; clear HO_265001; clear HO_265002; clear HO_265003; clear HO_265004; clear BK260; clear BK264; clear HB; have HO_265000 := n0_; have HO_265001 := n1_; have HO_265002 := n2_; have HO_265003 := n3_; have HO_265004 := n4_; have BK260 := n5_; have BK264 := n6_; have HB := n7_; clear n0_ n1_ n2_ n3_ n4_ n5_ n6_ n7_; clear hg hw hp_; have hcz46_0 : w45.cell? ⟨gb264, 0, none⟩ = some (.slice (some ⟨go40, 0, none⟩) x265000_1.length co40) := (blk_cell BK264.out 0).trans rfl; have hcz46_1 : w45.cell? ⟨gb264, 1, none⟩ = some (u265001) := (blk_cell BK264.out 1).trans rfl; have hcz46_2 : w45.cell? ⟨gb264, 2, none⟩ = some (.slice (some ad273) x265002_1.length co13) := (blk_cell BK264.out 2).trans rfl; have hcz46_3 : w45.cell? ⟨gb264, 3, none⟩ = some (u265003) := (blk_cell BK264.out 3).trans rfl; have hcz46_4 : w45.cell? ⟨gb264, 4, none⟩ = some (u265004) := (blk_cell BK264.out 4).trans rfl; have hfz46_0 := blk_frozen BK264.out 0; have hfz46_1 := blk_frozen BK264.out 1; have hfz46_2 := blk_frozen BK264.out 2; have hfz46_3 := blk_frozen BK264.out 3; have hfz46_4 := blk_frozen BK264.out 4; have q47 : ((ji35) : Int) ≤ ((x265002_1.length : Int) : Int) := of_decide_eq_true (by first | (with_reducible assumption) | assumption); obtain ⟨i047, hi047, _, hsz47, _⟩ := info_parts info2; have hcut47 := cut_to (P := Try.prog) 33 2 .i64 Try.underlying33 hi047 (some ad273) x265002_1.length co13 (ji35) (of_decide_eq_true (by first | (with_reducible assumption) | assumption)) q47 (Kd.R_reads' HO_265002.out).2.1; have hr47 := Kd.R_take (m := ((ji35) : Int).toNat) HO_265002.out (by omega); have hy47 : y275.length = ((ji35) : Int).toNat := (by rw [Ny275.out, List.length_take]; omega); rw [← Ny275.out] at hr47; rw [← hy47] at hr47 hcut47; clear hy47 hi047 hsz47 HO_265002; have HO277 := Aside0.mk hr47; clear hr47; replace q47 := eq_true q47))
                                go_meet
                                case rel => exact ⟨_, (rd x265002_1 (ji35)), (y274), (x265001_1), (y275), (x265003_1), (x265004_1), (.slice (some ⟨go40, 0, none⟩) x265000_1.length co40), (u265001), (.slice (some ad273) y275.length co13), (u265003), (u265004), (by first | rfl | (simp; done) | (simp only [← hji35] <;> (first | rfl | simp)) | (simp [*]; done)), H', ⟨by have := HK1.out; have := HJ13.out; first | omega | exact Nat.le_refl _⟩, ⟨by (with_reducible repeat (first | apply Kd.R_alloc | apply Kd.R_drewN | apply Kd.R_drew)); exact Kd.R_mono (Kd.R_far (p := ⟨gb264, 2, none⟩) (Kd.R_types HO_265000.out BK264.out (by decide)) (fun _ hk => hk.2) (.slice (some ad273) y275.length co13)) (fun _ hk => ⟨hk.1.1, ⟨hk.1.2.1, ⟨hk.1.2.2.1, hk.1.2.2.2⟩⟩⟩)⟩, ⟨by (with_reducible repeat (first | apply Kd.R_alloc | apply Kd.R_drewN | apply Kd.R_drew)); exact Kd.R_mono (Kd.R_far (p := ⟨gb264, 2, none⟩) (Kd.R_types HO_265001.out BK264.out (by decide)) (fun _ hk => hk.2) (.slice (some ad273) y275.length co13)) (fun _ hk => ⟨hk.1.2, ⟨hk.1.1.1, ⟨hk.1.1.2.1, hk.1.1.2.2⟩⟩⟩)⟩, ⟨by (with_reducible repeat (first | apply Kd.R_alloc | apply Kd.R_drewN | apply Kd.R_drew)); exact Kd.R_mono (Kd.R_far (p := ⟨gb264, 2, none⟩) (Kd.R_types HO277.out BK264.out (by decide)) (fun _ hk => hk.2) (.slice (some ad273) y275.length co13)) (fun _ hk => ⟨hk.1.2, ⟨hk.1.1.1, ⟨hk.1.1.2.1, hk.1.1.2.2⟩⟩⟩)⟩, ⟨by (with_reducible repeat (first | apply Kd.R_alloc | apply Kd.R_drewN | apply Kd.R_drew)); exact Kd.R_mono (Kd.R_far (p := ⟨gb264, 2, none⟩) (Kd.R_types HO_265003.out BK264.out (by decide)) (fun _ hk => hk.2) (.slice (some ad273) y275.length co13)) (fun _ hk => ⟨hk.1.2, ⟨hk.1.1.1, ⟨hk.1.1.2.1, hk.1.1.2.2⟩⟩⟩)⟩, ⟨by (with_reducible repeat (first | apply Kd.R_alloc | apply Kd.R_drewN | apply Kd.R_drew)); exact Kd.R_mono (Kd.R_far (p := ⟨gb264, 2, none⟩) (Kd.R_types HO_265004.out BK264.out (by decide)) (fun _ hk => hk.2) (.slice (some ad273) y275.length co13)) (fun _ hk => ⟨hk.1.2, ⟨hk.1.1.1, ⟨hk.1.1.2.1, hk.1.1.2.2⟩⟩⟩)⟩, ⟨by (with_reducible repeat (first | refine blk_drewN ?_ _ | refine blk_drew ?_ | refine blk_alloc ?_ _)); refine blk_far ?_ NB260_264.out _; (with_reducible repeat (first | refine blk_drewN ?_ _ | refine blk_drew ?_ | refine blk_alloc ?_ _)); exact BK260.out⟩, ⟨by (with_reducible repeat (first | refine blk_drewN ?_ _ | refine blk_drew ?_ | refine blk_alloc ?_ _)); refine blk_put (cs := #[.slice (some ⟨go40, 0, none⟩) x265000_1.length co40, u265001, .slice (some ad273) x265002_1.length co13, u265003, u265004]) ?_ 2 _ rfl; (with_reducible repeat (first | refine blk_drewN ?_ _ | refine blk_drew ?_ | refine blk_alloc ?_ _)); exact BK264.out⟩, ⟨by repeat (first | (with_reducible first | exact HB.out | apply below_alloc | apply pw_below_drewN | apply below_drew1 | refine below_set ?_ GE260.out | refine below_set ?_ GE264.out) | exact HB.out)⟩⟩
                              · rw [if_neg c41] at H
                                exact absurd H (by simp)
                            · rw [if_neg c39] at H
                              exact absurd H (by simp)
                          · rw [if_neg c38] at H
                            exact absurd H (by simp)
                        · rw [if_neg c37] at H
                          exact absurd H (by simp)
                      · rw [if_neg c36] at H
                        exact absurd H (by simp)
                    · replace c34 := Bool.eq_false_iff.mpr c34
                      subst c34
                      have H1 : (impl_match.j2 kj13 a0 x14_1 x14_1 (-1) (a0.size : Int) x14_1 x265000_1 x265001_1 x265002_1 x265003_1 x265004_1) = some (r1, r2, r3, r4, r5) := by rw [if_neg (show ¬ (false = true) by decide)] at H; exact H
                      clear H
                      have H := H1
                      clear H1
                      have H' := Aside0.mk H
                      clear H
                      have p32 : 0 ≤ (x14_1 : Int) := of_decide_eq_true (by first | (with_reducible assumption) | assumption)
                      have q32 : x14_1 < (a0.size : Int) := of_decide_eq_true (by first | (with_reducible assumption) | assumption)
                      have hx32 := bt_at a0 x14_1
                      replace p32 := eq_true p32
                      replace q32 := eq_true q32
                      go_wp2_with (first | ((with_reducible refine gate_callee (f := 51) rfl ?_); refine goesL_ (some 40) rfl rfl Try.func51 (by kernel_rfl) rfl #[.int .u8 (bt a0 x14_1)] rfl (by (try simp only [List.map_toArray, List.map_cons, List.map_nil]); first | done | rfl | (simp only [List.length_drop, List.length_take]; rfl)) ?_; (with_reducible refine (impl_isReturn.calls (bt a0 x14_1) false _ A33.out).mono ?_); rintro e w' ⟨rfl, ⟨nd, rfl⟩⟩; refine ⟨_, rfl, ?_⟩))
                      go_meet
                      case rel => exact ⟨_, ((-1)), (x265000_1), (x265001_1), (x265002_1), (x265003_1), (x265004_1), (u265000), (u265001), (.slice Ao13 x265002_1.length co13), (u265003), (u265004), (by first | rfl | (simp; done) | (simp [*]; done)), H', ⟨by have := HK1.out; have := HJ13.out; first | omega | exact Nat.le_refl _⟩, ⟨by (with_reducible repeat (first | apply Kd.R_alloc | apply Kd.R_drewN | apply Kd.R_drew)); exact HO_265000.out⟩, ⟨by (with_reducible repeat (first | apply Kd.R_alloc | apply Kd.R_drewN | apply Kd.R_drew)); exact HO_265001.out⟩, ⟨by (with_reducible repeat (first | apply Kd.R_alloc | apply Kd.R_drewN | apply Kd.R_drew)); exact HO_265002.out⟩, ⟨by (with_reducible repeat (first | apply Kd.R_alloc | apply Kd.R_drewN | apply Kd.R_drew)); exact HO_265003.out⟩, ⟨by (with_reducible repeat (first | apply Kd.R_alloc | apply Kd.R_drewN | apply Kd.R_drew)); exact HO_265004.out⟩, ⟨by (with_reducible repeat (first | refine blk_drewN ?_ _ | refine blk_drew ?_ | refine blk_alloc ?_ _)); exact BK260.out⟩, ⟨by (with_reducible repeat (first | refine blk_drewN ?_ _ | refine blk_drew ?_ | refine blk_alloc ?_ _)); exact BK264.out⟩, ⟨by repeat (first | (with_reducible first | exact HB.out | apply below_alloc | apply pw_below_drewN | apply below_drew1 | refine below_set ?_ GE260.out | refine below_set ?_ GE264.out) | exact HB.out)⟩⟩
                  · rw [if_neg c31] at H
                    exact absurd H (by simp)
                · rw [if_neg c30] at H
                  exact absurd H (by simp)
        case rest =>
          clear HC10
          try clear c1
          try clear p1
          try clear q1
          try clear hx1
          try clear c2
          try clear p2
          try clear q2
          try clear hx2
          try clear c3
          try clear p3
          try clear q3
          try clear hx3
          try clear c4
          try clear p4
          try clear q4
          try clear hx4
          try clear hf4
          try clear c5
          try clear p6
          try clear c7
          try clear c9
          try clear c9b0
          try clear c11
          try clear c15
          try clear c15b0
          try clear c15b1
          try clear c16
          try clear c16b0
          try clear p17
          try clear q17
          try clear hx17
          try clear c19
          try clear c20
          try clear c21
          try clear c22
          try clear p27
          try clear q27
          try clear hx27
          try clear c30
          try clear c30b0
          try clear c31
          try clear c31b0
          try clear p32
          try clear q32
          try clear hx32
          try clear c34
          try clear c36
          try clear c36b0
          try clear c37
          try clear c37b0
          try clear c38
          try clear c38b0
          try clear c39
          try clear c39b0
          try clear c40
          try clear p40
          try clear q40
          try clear hx40
          try clear hf40
          try clear c41
          try clear c41b0
          try clear c41b1
          try clear c42
          try clear q47
          try clear hcz12_0
          try clear hcz12_1
          try clear hcz12_2
          try clear hcz12_3
          try clear hcz12_4
          try clear hcz23_0
          try clear hcz23_1
          try clear hcz23_2
          try clear hcz23_3
          try clear hcz23_4
          try clear hcz29_0
          try clear hcz29_1
          try clear hcz29_2
          try clear hcz29_3
          try clear hcz29_4
          try clear hcz43_0
          try clear hcz43_1
          try clear hcz43_2
          try clear hcz43_3
          try clear hcz43_4
          try clear hcz46_0
          try clear hcz46_1
          try clear hcz46_2
          try clear hcz46_3
          try clear hcz46_4
          try clear hcz8_0
          try clear hcz8_1
          try clear hcz8_2
          try clear hcz8_3
          try clear hcz8_4
          try clear hfz12_0
          try clear hfz12_1
          try clear hfz12_2
          try clear hfz12_3
          try clear hfz12_4
          try clear hfz23_0
          try clear hfz23_1
          try clear hfz23_2
          try clear hfz23_3
          try clear hfz23_4
          try clear hfz29_0
          try clear hfz29_1
          try clear hfz29_2
          try clear hfz29_3
          try clear hfz29_4
          try clear hfz43_0
          try clear hfz43_1
          try clear hfz43_2
          try clear hfz43_3
          try clear hfz43_4
          try clear hfz46_0
          try clear hfz46_1
          try clear hfz46_2
          try clear hfz46_3
          try clear hfz46_4
          try clear hfz8_0
          try clear hfz8_1
          try clear hfz8_2
          try clear hfz8_3
          try clear hfz8_4
          try clear hx273_0
          try clear hx40_0
          try clear p1
          try clear p17
          try clear p2
          try clear p273
          try clear p32
          try clear p40
          try clear q1
          try clear q17
          try clear q273
          try clear q32
          try clear q40
          try clear q47
          obtain ⟨kq, x6_9, x265000_9, x265001_9, x265002_9, x265003_9, x265004_9, u265000, u265001, u265002, u265003, u265004, rfl, HA, HJ9, HO_265000, HO_265001, HO_265002, HO_265003, HO_265004, BK260, BK264, HB⟩ := hcut
          cases kq with
          | zero => exact absurd HA.out (by simp [impl_match.j2])
          | succ kj9 =>
            have H := HA.out
            clear HA
            simp only [impl_match.j2] at H
            have HC48 := Aside0.mk H
            clear H
            have hnb49 := NB264_260.out
            have hnc49 := NB260_264.out
            have hcz50_0 : wc.cell? ⟨gb264, 0, none⟩ = some (u265000) := (blk_cell BK264.out 0).trans rfl
            have hcz50_1 : wc.cell? ⟨gb264, 1, none⟩ = some (u265001) := (blk_cell BK264.out 1).trans rfl
            have hcz50_2 : wc.cell? ⟨gb264, 2, none⟩ = some (u265002) := (blk_cell BK264.out 2).trans rfl
            have hcz50_3 : wc.cell? ⟨gb264, 3, none⟩ = some (u265003) := (blk_cell BK264.out 3).trans rfl
            have hcz50_4 : wc.cell? ⟨gb264, 4, none⟩ = some (u265004) := (blk_cell BK264.out 4).trans rfl
            have hfz50_0 := blk_frozen BK264.out 0
            have hfz50_1 := blk_frozen BK264.out 1
            have hfz50_2 := blk_frozen BK264.out 2
            have hfz50_3 := blk_frozen BK264.out 3
            have hfz50_4 := blk_frozen BK264.out 4
            obtain ⟨Ao51, co51, eo51⟩ := Kd.R_slice HO_265002.out
            subst eo51
            go_upto_if 62 with (fail)
            go_cut [8] (fun v8 wc => ∃ (kq : Nat) (x8_47 : Int), v8 = .int .i64 x8_47 ∧ Aside0 (impl_match.j3 kq a0 x14_1 x14_1 x6_9 x8_47 (a0.size : Int) x14_1 x265000_9 x265001_9 x265002_9 x265003_9 x265004_9 = some (r1, r2, r3, r4, r5)) ∧ Aside0 (kq ≤ kj9) ∧ Aside0 (Kd.R (Kd.int .i64) 2 wc w.heap.size (fun k_ => some k_ ≠ (u265001 : Value).ownBlock ∧ some k_ ≠ ((.slice Ao51 x265002_9.length co51) : Value).ownBlock ∧ some k_ ≠ (u265003 : Value).ownBlock ∧ some k_ ≠ (u265004 : Value).ownBlock) u265000 x265000_9) ∧ Aside0 (Kd.R (Kd.int .i64) 2 wc w.heap.size (fun k_ => some k_ ≠ (u265000 : Value).ownBlock ∧ some k_ ≠ ((.slice Ao51 x265002_9.length co51) : Value).ownBlock ∧ some k_ ≠ (u265003 : Value).ownBlock ∧ some k_ ≠ (u265004 : Value).ownBlock) u265001 x265001_9) ∧ Aside0 (Kd.R (Kd.int .i64) 2 wc w.heap.size (fun k_ => some k_ ≠ (u265000 : Value).ownBlock ∧ some k_ ≠ (u265001 : Value).ownBlock ∧ some k_ ≠ (u265003 : Value).ownBlock ∧ some k_ ≠ (u265004 : Value).ownBlock) (.slice Ao51 x265002_9.length co51) x265002_9) ∧ Aside0 (Kd.R (Kd.int .i64) 2 wc w.heap.size (fun k_ => some k_ ≠ (u265000 : Value).ownBlock ∧ some k_ ≠ (u265001 : Value).ownBlock ∧ some k_ ≠ ((.slice Ao51 x265002_9.length co51) : Value).ownBlock ∧ some k_ ≠ (u265004 : Value).ownBlock) u265003 x265003_9) ∧ Aside0 (Kd.R (Kd.int .i64) 2 wc w.heap.size (fun k_ => some k_ ≠ (u265000 : Value).ownBlock ∧ some k_ ≠ (u265001 : Value).ownBlock ∧ some k_ ≠ ((.slice Ao51 x265002_9.length co51) : Value).ownBlock ∧ some k_ ≠ (u265003 : Value).ownBlock) u265004 x265004_9) ∧ Aside0 (wc.heap[gb260]? = some (.cells #[(.slice none 0 0), (.slice none 0 0), (.slice none 0 0), (.slice none 0 0), (.slice none 0 0)] 60 (0, 0))) ∧ Aside0 (wc.heap[gb264]? = some (.cells #[u265000, u265001, (.slice Ao51 x265002_9.length co51), u265003, u265004] 60 (0, 0))) ∧ Aside0 (Below w.heap.size w wc))
            case first =>
              have H := HC48.out
              clear HC48
              by_cases c52 : (x265002_9.length : Int) > 0
              · rw [if_pos c52] at H
                have c52b0 : decide (0 < (x265002_9.length : Int)) = true := decide_eq_true c52
                have c52b1 : decide (0 < x265002_9.length) = true := decide_eq_true (by omega)
                clear c52
                (first | rw [c52b0] | rw [c52b1] | (simp only [i64_w, i32_w]; rw [c52b0]) | skip)
                obtain ⟨ji53, hji53⟩ : ∃ j_ : Int, (wrap64 ((x265002_9.length : Int) - 1)) = j_ := ⟨_, rfl⟩
                replace H : (if 0 ≤ (ji53) then (if (ji53) < (x265002_9.length : Int) then (impl_match.j3 kj9 a0 x14_1 x14_1 x6_9 (rd x265002_9 (ji53)) (a0.size : Int) x14_1 x265000_9 x265001_9 x265002_9 x265003_9 x265004_9) else (none)) else (none)) = some (r1, r2, r3, r4, r5) := by first | (rw [hji53] at H; exact H) | (simp only [hji53] at H ⊢; exact H)
                have hji53w : (IntKind.i64.wrap ((x265002_9.length : Int) - 1)) = ji53 := (i64_w _).trans hji53
                by_cases c54 : 0 ≤ (ji53)
                · rw [if_pos c54] at H
                  have c54b0 : decide (0 ≤ (ji53)) = true := decide_eq_true c54
                  clear c54
                  by_cases c55 : (ji53) < (x265002_9.length : Int)
                  · rw [if_pos c55] at H
                    have c55b0 : decide ((ji53) < (x265002_9.length : Int)) = true := decide_eq_true c55
                    clear c55
                    have H' := Aside0.mk H
                    clear H
                    have hnb56 := NB264_260.out
                    have hnc56 := NB260_264.out
                    have hcz57_0 : wc.cell? ⟨gb264, 0, none⟩ = some (u265000) := (blk_cell BK264.out 0).trans rfl
                    have hcz57_1 : wc.cell? ⟨gb264, 1, none⟩ = some (u265001) := (blk_cell BK264.out 1).trans rfl
                    have hcz57_2 : wc.cell? ⟨gb264, 2, none⟩ = some (.slice Ao51 x265002_9.length co51) := (blk_cell BK264.out 2).trans rfl
                    have hcz57_3 : wc.cell? ⟨gb264, 3, none⟩ = some (u265003) := (blk_cell BK264.out 3).trans rfl
                    have hcz57_4 : wc.cell? ⟨gb264, 4, none⟩ = some (u265004) := (blk_cell BK264.out 4).trans rfl
                    have hfz57_0 := blk_frozen BK264.out 0
                    have hfz57_1 := blk_frozen BK264.out 1
                    have hfz57_2 := blk_frozen BK264.out 2
                    have hfz57_3 := blk_frozen BK264.out 3
                    have hfz57_4 := blk_frozen BK264.out 4
                    have p278 : 0 ≤ ((ji53) : Int) := of_decide_eq_true (by first | (with_reducible assumption) | assumption)
                    have q278 : (ji53) < (x265002_9.length : Int) := of_decide_eq_true (by first | (with_reducible assumption) | assumption)
                    obtain ⟨ad278, e278, hx278_0⟩ := Kd.at_int (Kd.R_reads' HO_265002.out).2.2 (ji53) p278 q278
                    cases e278
                    replace p278 := eq_true p278
                    replace q278 := eq_true q278
                    go_wp2
                    go_meet
                    case rel => exact ⟨_, (rd x265002_9 (ji53)), (by first | rfl | (simp; done) | (simp only [← hji53] <;> (first | rfl | simp)) | (simp [*]; done)), H', ⟨by have := HK1.out; have := HJ9.out; first | omega | exact Nat.le_refl _⟩, ⟨by (with_reducible repeat (first | apply Kd.R_alloc | apply Kd.R_drewN | apply Kd.R_drew)); exact HO_265000.out⟩, ⟨by (with_reducible repeat (first | apply Kd.R_alloc | apply Kd.R_drewN | apply Kd.R_drew)); exact HO_265001.out⟩, ⟨by (with_reducible repeat (first | apply Kd.R_alloc | apply Kd.R_drewN | apply Kd.R_drew)); exact HO_265002.out⟩, ⟨by (with_reducible repeat (first | apply Kd.R_alloc | apply Kd.R_drewN | apply Kd.R_drew)); exact HO_265003.out⟩, ⟨by (with_reducible repeat (first | apply Kd.R_alloc | apply Kd.R_drewN | apply Kd.R_drew)); exact HO_265004.out⟩, ⟨by (with_reducible repeat (first | refine blk_drewN ?_ _ | refine blk_drew ?_ | refine blk_alloc ?_ _)); exact BK260.out⟩, ⟨by (with_reducible repeat (first | refine blk_drewN ?_ _ | refine blk_drew ?_ | refine blk_alloc ?_ _)); exact BK264.out⟩, ⟨by repeat (first | (with_reducible first | exact HB.out | apply below_alloc | apply pw_below_drewN | apply below_drew1 | refine below_set ?_ GE260.out | refine below_set ?_ GE264.out) | exact HB.out)⟩⟩
                  · rw [if_neg c55] at H
                    exact absurd H (by simp)
                · rw [if_neg c54] at H
                  exact absurd H (by simp)
              · rw [if_neg c52] at H
                have c52b0 : decide (0 < (x265002_9.length : Int)) = false := decide_eq_false c52
                have c52b1 : decide (0 < x265002_9.length) = false := decide_eq_false (by omega)
                clear c52
                (first | rw [c52b0] | rw [c52b1] | (simp only [i64_w, i32_w]; rw [c52b0]) | skip)
                have H' := Aside0.mk H
                clear H
                go_wp2
                go_meet
                case rel => exact ⟨_, ((-1)), (by first | rfl | (simp; done) | (simp [*]; done)), H', ⟨by have := HK1.out; have := HJ9.out; first | omega | exact Nat.le_refl _⟩, ⟨by (with_reducible repeat (first | apply Kd.R_alloc | apply Kd.R_drewN | apply Kd.R_drew)); exact HO_265000.out⟩, ⟨by (with_reducible repeat (first | apply Kd.R_alloc | apply Kd.R_drewN | apply Kd.R_drew)); exact HO_265001.out⟩, ⟨by (with_reducible repeat (first | apply Kd.R_alloc | apply Kd.R_drewN | apply Kd.R_drew)); exact HO_265002.out⟩, ⟨by (with_reducible repeat (first | apply Kd.R_alloc | apply Kd.R_drewN | apply Kd.R_drew)); exact HO_265003.out⟩, ⟨by (with_reducible repeat (first | apply Kd.R_alloc | apply Kd.R_drewN | apply Kd.R_drew)); exact HO_265004.out⟩, ⟨by (with_reducible repeat (first | refine blk_drewN ?_ _ | refine blk_drew ?_ | refine blk_alloc ?_ _)); exact BK260.out⟩, ⟨by (with_reducible repeat (first | refine blk_drewN ?_ _ | refine blk_drew ?_ | refine blk_alloc ?_ _)); exact BK264.out⟩, ⟨by repeat (first | (with_reducible first | exact HB.out | apply below_alloc | apply pw_below_drewN | apply below_drew1 | refine below_set ?_ GE260.out | refine below_set ?_ GE264.out) | exact HB.out)⟩⟩
            case rest =>
              clear HC48
              try clear c1
              try clear p1
              try clear q1
              try clear hx1
              try clear c2
              try clear p2
              try clear q2
              try clear hx2
              try clear c3
              try clear p3
              try clear q3
              try clear hx3
              try clear c4
              try clear p4
              try clear q4
              try clear hx4
              try clear hf4
              try clear c5
              try clear p6
              try clear c7
              try clear c9
              try clear c9b0
              try clear c11
              try clear c15
              try clear c15b0
              try clear c15b1
              try clear c16
              try clear c16b0
              try clear p17
              try clear q17
              try clear hx17
              try clear c19
              try clear c20
              try clear c21
              try clear c22
              try clear p27
              try clear q27
              try clear hx27
              try clear c30
              try clear c30b0
              try clear c31
              try clear c31b0
              try clear p32
              try clear q32
              try clear hx32
              try clear c34
              try clear c36
              try clear c36b0
              try clear c37
              try clear c37b0
              try clear c38
              try clear c38b0
              try clear c39
              try clear c39b0
              try clear c40
              try clear p40
              try clear q40
              try clear hx40
              try clear hf40
              try clear c41
              try clear c41b0
              try clear c41b1
              try clear c42
              try clear q47
              try clear c49
              try clear c51
              try clear c52
              try clear c52b0
              try clear c52b1
              try clear c54
              try clear c54b0
              try clear c55
              try clear c55b0
              try clear c56
              try clear hcz12_0
              try clear hcz12_1
              try clear hcz12_2
              try clear hcz12_3
              try clear hcz12_4
              try clear hcz23_0
              try clear hcz23_1
              try clear hcz23_2
              try clear hcz23_3
              try clear hcz23_4
              try clear hcz29_0
              try clear hcz29_1
              try clear hcz29_2
              try clear hcz29_3
              try clear hcz29_4
              try clear hcz43_0
              try clear hcz43_1
              try clear hcz43_2
              try clear hcz43_3
              try clear hcz43_4
              try clear hcz46_0
              try clear hcz46_1
              try clear hcz46_2
              try clear hcz46_3
              try clear hcz46_4
              try clear hcz50_0
              try clear hcz50_1
              try clear hcz50_2
              try clear hcz50_3
              try clear hcz50_4
              try clear hcz57_0
              try clear hcz57_1
              try clear hcz57_2
              try clear hcz57_3
              try clear hcz57_4
              try clear hcz8_0
              try clear hcz8_1
              try clear hcz8_2
              try clear hcz8_3
              try clear hcz8_4
              try clear hfz12_0
              try clear hfz12_1
              try clear hfz12_2
              try clear hfz12_3
              try clear hfz12_4
              try clear hfz23_0
              try clear hfz23_1
              try clear hfz23_2
              try clear hfz23_3
              try clear hfz23_4
              try clear hfz29_0
              try clear hfz29_1
              try clear hfz29_2
              try clear hfz29_3
              try clear hfz29_4
              try clear hfz43_0
              try clear hfz43_1
              try clear hfz43_2
              try clear hfz43_3
              try clear hfz43_4
              try clear hfz46_0
              try clear hfz46_1
              try clear hfz46_2
              try clear hfz46_3
              try clear hfz46_4
              try clear hfz50_0
              try clear hfz50_1
              try clear hfz50_2
              try clear hfz50_3
              try clear hfz50_4
              try clear hfz57_0
              try clear hfz57_1
              try clear hfz57_2
              try clear hfz57_3
              try clear hfz57_4
              try clear hfz8_0
              try clear hfz8_1
              try clear hfz8_2
              try clear hfz8_3
              try clear hfz8_4
              try clear hx273_0
              try clear hx278_0
              try clear hx40_0
              try clear p1
              try clear p17
              try clear p2
              try clear p27
              try clear p273
              try clear p278
              try clear p3
              try clear p32
              try clear p4
              try clear p40
              try clear p6
              try clear q1
              try clear q17
              try clear q2
              try clear q27
              try clear q273
              try clear q278
              try clear q3
              try clear q32
              try clear q4
              try clear q40
              try clear q47
              obtain ⟨kq, x8_47, rfl, HA, HJ47, HO_265000, HO_265001, HO_265002, HO_265003, HO_265004, BK260, BK264, HB⟩ := hcut
              cases kq with
              | zero => exact absurd HA.out (by simp [impl_match.j3])
              | succ kj47 =>
                have H := HA.out
                clear HA
                simp only [impl_match.j3] at H
                by_cases c58 : 0 ≤ x14_1
                · rw [if_pos c58] at H
                  have c58b0 : decide (0 ≤ x14_1) = true := decide_eq_true c58
                  clear c58
                  by_cases c59 : x14_1 < (a0.size : Int)
                  · rw [if_pos c59] at H
                    have c59b0 : decide (x14_1 < (a0.size : Int)) = true := decide_eq_true c59
                    clear c59
                    replace H := Option.bind_eq_some_iff.mp H
                    obtain ⟨t279, A610, H⟩ := H
                    replace H : (if t279 = true then ((some (([x14_1] : List Int) : List Int)).bind fun y280 => (if x265002_9.length + y280.length < 17592186044416 then (impl_match.j4 kj47 a0 (-2) x8_47 (a0.size : Int) x14_1 x265000_9 x265001_9 (x265002_9 ++ y280) x265003_9 x265004_9) else (none))) else (impl_match.j4 kj47 a0 x6_9 x8_47 (a0.size : Int) x14_1 x265000_9 x265001_9 x265002_9 x265003_9 x265004_9)) = some (r1, r2, r3, r4, r5) := H
                    have A61 := Aside0.mk A610
                    clear A610
                    have HC62 := Aside0.mk H
                    clear H
                    have p60 : 0 ≤ (x14_1 : Int) := of_decide_eq_true (by first | (with_reducible assumption) | assumption)
                    have q60 : x14_1 < (a0.size : Int) := of_decide_eq_true (by first | (with_reducible assumption) | assumption)
                    have hx60 := bt_at a0 x14_1
                    replace p60 := eq_true p60
                    replace q60 := eq_true q60
                    go_upto_if 72 with (first | ((with_reducible refine gate_callee (f := 50) rfl ?_); refine goesL_ (some 72) rfl rfl Try.func50 (by kernel_rfl) rfl #[.int .u8 (bt a0 x14_1)] rfl (by (try simp only [List.map_toArray, List.map_cons, List.map_nil]); first | done | rfl | (simp only [List.length_drop, List.length_take]; rfl)) ?_; (with_reducible refine (impl_isCall.calls (bt a0 x14_1) t279 _ A61.out).mono ?_); rintro e w' ⟨rfl, ⟨nd, rfl⟩⟩; refine ⟨_, rfl, ?_⟩))
                    (try simp only [Act.put, List.setIfInBounds_toArray, List.set_cons_zero, List.set_cons_succ])
                    go_cut [6] (fun v6 wc => ∃ (kq : Nat) (x6_61 : Int) (x265002_61 : List Int) (u265002 : Value), v6 = .int .i64 x6_61 ∧ Aside0 (impl_match.j4 kq a0 x6_61 x8_47 (a0.size : Int) x14_1 x265000_9 x265001_9 x265002_61 x265003_9 x265004_9 = some (r1, r2, r3, r4, r5)) ∧ Aside0 (kq ≤ kj47) ∧ Aside0 (Kd.R (Kd.int .i64) 2 wc w.heap.size (fun k_ => some k_ ≠ (u265001 : Value).ownBlock ∧ some k_ ≠ (u265002 : Value).ownBlock ∧ some k_ ≠ (u265003 : Value).ownBlock ∧ some k_ ≠ (u265004 : Value).ownBlock) u265000 x265000_9) ∧ Aside0 (Kd.R (Kd.int .i64) 2 wc w.heap.size (fun k_ => some k_ ≠ (u265000 : Value).ownBlock ∧ some k_ ≠ (u265002 : Value).ownBlock ∧ some k_ ≠ (u265003 : Value).ownBlock ∧ some k_ ≠ (u265004 : Value).ownBlock) u265001 x265001_9) ∧ Aside0 (Kd.R (Kd.int .i64) 2 wc w.heap.size (fun k_ => some k_ ≠ (u265000 : Value).ownBlock ∧ some k_ ≠ (u265001 : Value).ownBlock ∧ some k_ ≠ (u265003 : Value).ownBlock ∧ some k_ ≠ (u265004 : Value).ownBlock) u265002 x265002_61) ∧ Aside0 (Kd.R (Kd.int .i64) 2 wc w.heap.size (fun k_ => some k_ ≠ (u265000 : Value).ownBlock ∧ some k_ ≠ (u265001 : Value).ownBlock ∧ some k_ ≠ (u265002 : Value).ownBlock ∧ some k_ ≠ (u265004 : Value).ownBlock) u265003 x265003_9) ∧ Aside0 (Kd.R (Kd.int .i64) 2 wc w.heap.size (fun k_ => some k_ ≠ (u265000 : Value).ownBlock ∧ some k_ ≠ (u265001 : Value).ownBlock ∧ some k_ ≠ (u265002 : Value).ownBlock ∧ some k_ ≠ (u265003 : Value).ownBlock) u265004 x265004_9) ∧ Aside0 (wc.heap[gb260]? = some (.cells #[(.slice none 0 0), (.slice none 0 0), (.slice none 0 0), (.slice none 0 0), (.slice none 0 0)] 60 (0, 0))) ∧ Aside0 (wc.heap[gb264]? = some (.cells #[u265000, u265001, u265002, u265003, u265004] 60 (0, 0))) ∧ Aside0 (Below w.heap.size w wc))
                    case first =>
                      have H := HC62.out
                      clear HC62
                      by_cases c63 : t279 = true
                      · subst c63
                        have H1 : ((some (([x14_1] : List Int) : List Int)).bind fun y280 => (if x265002_9.length + y280.length < 17592186044416 then (impl_match.j4 kj47 a0 (-2) x8_47 (a0.size : Int) x14_1 x265000_9 x265001_9 (x265002_9 ++ y280) x265003_9 x265004_9) else (none))) = some (r1, r2, r3, r4, r5) := by rw [if_pos rfl] at H; exact H
                        clear H
                        have H := H1
                        clear H1
                        obtain ⟨y280, hy280⟩ : ∃ y_ : List Int, y_ = (([x14_1] : List Int)) := ⟨_, rfl⟩
                        replace H : (if x265002_9.length + y280.length < 17592186044416 then (impl_match.j4 kj47 a0 (-2) x8_47 (a0.size : Int) x14_1 x265000_9 x265001_9 (x265002_9 ++ y280) x265003_9 x265004_9) else (none)) = some (r1, r2, r3, r4, r5) := by first | (rw [hy280]; with_reducible exact H) | (have H2_ := (Option.bind_some _ _).symm.trans H; rw [hy280]; with_reducible exact H2_) | (have H2_ := (Option.bind_some _ _).symm.trans H; with_reducible exact H2_) | with_reducible exact H | (rw [hy280]; exact H) | exact H
                        have Ny280 := Aside0.mk hy280
                        clear hy280
                        by_cases c64 : x265002_9.length + y280.length < 17592186044416
                        · rw [if_pos c64] at H
                          have LMc64 := Aside0.mk c64
                          clear c64
                          obtain ⟨y283, hy283⟩ : ∃ y_ : List Int, y_ = (x265002_9 ++ y280) := ⟨_, rfl⟩
                          replace H : (impl_match.j4 kj47 a0 (-2) x8_47 (a0.size : Int) x14_1 x265000_9 x265001_9 y283 x265003_9 x265004_9) = some (r1, r2, r3, r4, r5) := by first | (rw [hy283]; with_reducible exact H) | (have H2_ := (Option.bind_some _ _).symm.trans H; rw [hy283]; with_reducible exact H2_) | (have H2_ := (Option.bind_some _ _).symm.trans H; with_reducible exact H2_) | with_reducible exact H | (rw [hy283]; exact H) | exact H
                          have Ny283 := Aside0.mk hy283
                          clear hy283
                          have H' := Aside0.mk H
                          clear H
                          have hnb65 := NB264_260.out
                          have hnc65 := NB260_264.out
                          have hcz66_0 : wc.cell? ⟨gb264, 0, none⟩ = some (u265000) := (blk_cell BK264.out 0).trans rfl
                          have hcz66_1 : wc.cell? ⟨gb264, 1, none⟩ = some (u265001) := (blk_cell BK264.out 1).trans rfl
                          have hcz66_2 : wc.cell? ⟨gb264, 2, none⟩ = some (.slice Ao51 x265002_9.length co51) := (blk_cell BK264.out 2).trans rfl
                          have hcz66_3 : wc.cell? ⟨gb264, 3, none⟩ = some (u265003) := (blk_cell BK264.out 3).trans rfl
                          have hcz66_4 : wc.cell? ⟨gb264, 4, none⟩ = some (u265004) := (blk_cell BK264.out 4).trans rfl
                          have hfz66_0 := blk_frozen BK264.out 0
                          have hfz66_1 := blk_frozen BK264.out 1
                          have hfz66_2 := blk_frozen BK264.out 2
                          have hfz66_3 := blk_frozen BK264.out 3
                          have hfz66_4 := blk_frozen BK264.out 4
                          go_wp2_with (first | ((with_reducible refine gate_dst (N := 76) rfl ?_); refine Kd.R_lit (Kd.int .i64) _ 2 ?hg (N := 76) ?hd (xs := ([x14_1] : List Int)) (inner := [.int .i64 x14_1]) (ok := fun _ => True) (okp := fun _ => True) ?hr ?hp (fun _ hk => hk) trivial (Below.refl _ _) (Nat.le_refl _) (by simp) ?_; (case hd => rfl); (case hg => rfl); (case hr => first | (go_simp; done) | (go_simp; rfl)); (case hp => exact (Reps.one (show Kd.M (Kd.int .i64) _ _ _ x14_1 [.int .i64 x14_1] from rfl) (Reps.none _ _))); intro v281 w67 ho68 hb hg_ hnew_; clear hg_ hnew_; (first | rw [← Ny280.out] at ho68 | (simp only [Int.reduceToNat] at ho68; rw [← Ny280.out] at ho68)); have n0_ := Aside0.mk (Kd.R_elder' (by (with_reducible repeat (first | apply Kd.R_alloc | apply Kd.R_drewN | apply Kd.R_drew)); exact HO_265000.out) (Kd.R_base ho68) hb); have n1_ := Aside0.mk (Kd.R_elder' (by (with_reducible repeat (first | apply Kd.R_alloc | apply Kd.R_drewN | apply Kd.R_drew)); exact HO_265001.out) (Kd.R_base ho68) hb); have n2_ := Aside0.mk (Kd.R_elder' (by (with_reducible repeat (first | apply Kd.R_alloc | apply Kd.R_drewN | apply Kd.R_drew)); exact HO_265002.out) (Kd.R_base ho68) hb); have n3_ := Aside0.mk (Kd.R_elder' (by (with_reducible repeat (first | apply Kd.R_alloc | apply Kd.R_drewN | apply Kd.R_drew)); exact HO_265003.out) (Kd.R_base ho68) hb); have n4_ := Aside0.mk (Kd.R_elder' (by (with_reducible repeat (first | apply Kd.R_alloc | apply Kd.R_drewN | apply Kd.R_drew)); exact HO_265004.out) (Kd.R_base ho68) hb); have n5_ := Aside0.mk (Kd.R_lower (Kd.R_new' (Kd.R_new' (Kd.R_new' (Kd.R_new' (Kd.R_new' ho68 (Kd.R_lt (by (with_reducible repeat (first | apply Kd.R_alloc | apply Kd.R_drewN | apply Kd.R_drew)); exact HO_265000.out))) (Kd.R_lt (by (with_reducible repeat (first | apply Kd.R_alloc | apply Kd.R_drewN | apply Kd.R_drew)); exact HO_265001.out))) (Kd.R_lt (by (with_reducible repeat (first | apply Kd.R_alloc | apply Kd.R_drewN | apply Kd.R_drew)); exact HO_265002.out))) (Kd.R_lt (by (with_reducible repeat (first | apply Kd.R_alloc | apply Kd.R_drewN | apply Kd.R_drew)); exact HO_265003.out))) (Kd.R_lt (by (with_reducible repeat (first | apply Kd.R_alloc | apply Kd.R_drewN | apply Kd.R_drew)); exact HO_265004.out))) (below_size (by repeat (first | (with_reducible first | exact HB.out | apply below_alloc | apply pw_below_drewN | apply below_drew1 | refine below_set ?_ GE260.out | refine below_set ?_ GE264.out) | exact HB.out)))); have n6_ := Aside0.mk (blk_below (g := gb260) (o := .cells #[.slice none 0 0, .slice none 0 0, .slice none 0 0, .slice none 0 0, .slice none 0 0] 60 (0, 0)) (by (with_reducible repeat (first | refine blk_drewN ?_ _ | refine blk_drew ?_ | refine blk_alloc ?_ _)); exact BK260.out) hb); have n7_ := Aside0.mk (blk_below (g := gb264) (o := .cells #[u265000, u265001, .slice Ao51 x265002_9.length co51, u265003, u265004] 60 (0, 0)) (by (with_reducible repeat (first | refine blk_drewN ?_ _ | refine blk_drew ?_ | refine blk_alloc ?_ _)); exact BK264.out) hb); have n8_ := Aside0.mk (below_step (by repeat (first | (with_reducible first | exact HB.out | apply below_alloc | apply pw_below_drewN | apply below_drew1 | refine below_set ?_ GE260.out | refine below_set ?_ GE264.out) | exact HB.out)) hb); clear HO_265000; clear HO_265001; clear HO_265002; clear HO_265003; clear HO_265004; clear BK260; clear BK264; clear HB; have HO_265000 := n0_; have HO_265001 := n1_; have HO_265002 := n2_; have HO_265003 := n3_; have HO_265004 := n4_; have HO282 := n5_; have BK260 := n6_; have BK264 := n7_; have HB := n8_; clear n0_ n1_ n2_ n3_ n4_ n5_ n6_ n7_ n8_; clear hb ho68; obtain ⟨Ao70, co70, eo70⟩ := Kd.R_slice HO282.out; subst eo70) | ((with_reducible refine gate_builtin (b := .append) (xs := #[.tmp 74, .tmp 76]) rfl ?_); at_builtin; refine Kd.R_append_rows (Kd.int .i64) (w0 := w) w.heap.size rfl (.tmp 74) (.tmp 76) 33 2 (.int .i64 0) 8 rfl Try.underlying33 info2 rfl (by decide) (by omega) (.slice Ao51 x265002_9.length co51) x265002_9 y280 _ _ _ (fun k_ => some k_ ≠ (u265000 : Value).ownBlock ∧ some k_ ≠ (u265001 : Value).ownBlock ∧ some k_ ≠ (u265003 : Value).ownBlock ∧ some k_ ≠ (u265004 : Value).ownBlock ∧ some k_ ≠ (.slice Ao70 y280.length co70 : Value).ownBlock) (fun _ => False) rfl rfl ?aO ?aR (fun _ _ h => h) (fun _ h => h.elim) ?aF ?aB ?aS ?aL ?_; (case aR => repeat (first | exact (Kd.R_reads' HO282.out).2.2 | (with_reducible refine Kd.C_alloc ?_ _) | (with_reducible refine Kd.C_drewN ?_ _) | (with_reducible refine Kd.C_drew ?_))); (case aB => exact (by repeat (first | (with_reducible first | exact HB.out | apply below_alloc | apply pw_below_drewN | apply below_drew1 | refine below_set ?_ GE260.out | refine below_set ?_ GE264.out) | exact HB.out))); (case aF => exact (fun k_ hk => ⟨Kd.fresh' (Kd.R_lt (by (with_reducible repeat (first | apply Kd.R_alloc | apply Kd.R_drewN | apply Kd.R_drew)); exact HO_265000.out)) k_ hk, Kd.fresh' (Kd.R_lt (by (with_reducible repeat (first | apply Kd.R_alloc | apply Kd.R_drewN | apply Kd.R_drew)); exact HO_265001.out)) k_ hk, Kd.fresh' (Kd.R_lt (by (with_reducible repeat (first | apply Kd.R_alloc | apply Kd.R_drewN | apply Kd.R_drew)); exact HO_265003.out)) k_ hk, Kd.fresh' (Kd.R_lt (by (with_reducible repeat (first | apply Kd.R_alloc | apply Kd.R_drewN | apply Kd.R_drew)); exact HO_265004.out)) k_ hk, Kd.fresh' (Kd.R_lt (by (with_reducible repeat (first | apply Kd.R_alloc | apply Kd.R_drewN | apply Kd.R_drew)); exact HO282.out)) k_ hk⟩)); (case aO => exact (by (with_reducible repeat (first | apply Kd.R_alloc | apply Kd.R_drewN | apply Kd.R_drew)); exact Kd.R_mono HO_265002.out (fun _ hk => ⟨hk.1.1, ⟨hk.1.2.1, ⟨hk.1.2.2.1, ⟨hk.1.2.2.2, hk.2⟩⟩⟩⟩))); (case aS => exact (below_size (by repeat (first | (with_reducible first | exact HB.out | apply below_alloc | apply pw_below_drewN | apply below_drew1 | refine below_set ?_ GE260.out | refine below_set ?_ GE264.out) | exact HB.out)))); (case aL => have := LMc64.out; omega); intro v284 w69 ho hb hg hat; rw [← Ny283.out] at ho; have n0_ := Aside0.mk (Kd.R_after (ok := (fun k_ => some k_ ≠ (u265001 : Value).ownBlock ∧ some k_ ≠ (u265003 : Value).ownBlock ∧ some k_ ≠ (u265004 : Value).ownBlock ∧ some k_ ≠ (.slice Ao70 y280.length co70 : Value).ownBlock)) (by (with_reducible repeat (first | apply Kd.R_alloc | apply Kd.R_drewN | apply Kd.R_drew)); exact Kd.R_mono HO_265000.out (fun _ hk => ⟨⟨hk.1.1, ⟨hk.1.2.2.1, ⟨hk.1.2.2.2, hk.2⟩⟩⟩, hk.1.2.1⟩)) hg hat); have n1_ := Aside0.mk (Kd.R_after (ok := (fun k_ => some k_ ≠ (u265000 : Value).ownBlock ∧ some k_ ≠ (u265003 : Value).ownBlock ∧ some k_ ≠ (u265004 : Value).ownBlock ∧ some k_ ≠ (.slice Ao70 y280.length co70 : Value).ownBlock)) (by (with_reducible repeat (first | apply Kd.R_alloc | apply Kd.R_drewN | apply Kd.R_drew)); exact Kd.R_mono HO_265001.out (fun _ hk => ⟨⟨hk.1.1, ⟨hk.1.2.2.1, ⟨hk.1.2.2.2, hk.2⟩⟩⟩, hk.1.2.1⟩)) hg hat); have n2_ := Aside0.mk (Kd.R_after (ok := (fun k_ => some k_ ≠ (u265000 : Value).ownBlock ∧ some k_ ≠ (u265001 : Value).ownBlock ∧ some k_ ≠ (u265004 : Value).ownBlock ∧ some k_ ≠ (.slice Ao70 y280.length co70 : Value).ownBlock)) (by (with_reducible repeat (first | apply Kd.R_alloc | apply Kd.R_drewN | apply Kd.R_drew)); exact Kd.R_mono HO_265003.out (fun _ hk => ⟨⟨hk.1.1, ⟨hk.1.2.1, ⟨hk.1.2.2.2, hk.2⟩⟩⟩, hk.1.2.2.1⟩)) hg hat); have n3_ := Aside0.mk (Kd.R_after (ok := (fun k_ => some k_ ≠ (u265000 : Value).ownBlock ∧ some k_ ≠ (u265001 : Value).ownBlock ∧ some k_ ≠ (u265003 : Value).ownBlock ∧ some k_ ≠ (.slice Ao70 y280.length co70 : Value).ownBlock)) (by (with_reducible repeat (first | apply Kd.R_alloc | apply Kd.R_drewN | apply Kd.R_drew)); exact Kd.R_mono HO_265004.out (fun _ hk => ⟨⟨hk.1.1, ⟨hk.1.2.1, ⟨hk.1.2.2.2, hk.2⟩⟩⟩, hk.1.2.2.1⟩)) hg hat); have n4_ := Aside0.mk (blk_grown (g := gb260) (o := .cells #[.slice none 0 0, .slice none 0 0, .slice none 0 0, .slice none 0 0, .slice none 0 0] 60 (0, 0)) (by (with_reducible repeat (first | refine blk_drewN ?_ _ | refine blk_drew ?_ | refine blk_alloc ?_ _)); exact BK260.out) hg (Kd.R_ne HO_265002.out BK260.out (by decide))); have n5_ := Aside0.mk (blk_grown (g := gb264) (o := .cells #[u265000, u265001, .slice Ao51 x265002_9.length co51, u265003, u265004] 60 (0, 0)) (by (with_reducible repeat (first | refine blk_drewN ?_ _ | refine blk_drew ?_ | refine blk_alloc ?_ _)); exact BK264.out) hg (Kd.R_ne HO_265002.out BK264.out (by decide))); have n6_ := Aside0.mk (Kd.R_after (ok := (fun k_ => some k_ ≠ (u265000 : Value).ownBlock ∧ some k_ ≠ (u265001 : Value).ownBlock ∧ some k_ ≠ (u265003 : Value).ownBlock ∧ some k_ ≠ (u265004 : Value).ownBlock)) (by (with_reducible repeat (first | apply Kd.R_alloc | apply Kd.R_drewN | apply Kd.R_drew)); exact Kd.R_mono HO282.out (fun _ hk => ⟨⟨hk.1.1.1.1.2, ⟨hk.1.1.1.2, ⟨hk.1.2, hk.2⟩⟩⟩, hk.1.1.2⟩)) hg hat); have n7_ := Aside0.mk (hb); have n8_ := Aside0.mk (ho); clear HO_265000; clear HO_265001; clear HO_265003; clear HO_265004; clear BK260; clear BK264; clear HO282; clear HB; clear HO_265002; have HO_265000 := n0_; have HO_265001 := n1_; have HO_265003 := n2_; have HO_265004 := n3_; have BK260 := n4_; have BK264 := n5_; have HO282 := n6_; have HB := n7_; have HO285 := n8_; clear n0_ n1_ n2_ n3_ n4_ n5_ n6_ n7_ n8_; clear ho hb hg hat; obtain ⟨Ao71, co71, eo71⟩ := Kd.R_slice HO285.out; subst eo71; have hcz72_0 : w69.cell? ⟨gb264, 0, none⟩ = some (u265000) := (blk_cell BK264.out 0).trans rfl; have hcz72_1 : w69.cell? ⟨gb264, 1, none⟩ = some (u265001) := (blk_cell BK264.out 1).trans rfl; have hcz72_2 : w69.cell? ⟨gb264, 2, none⟩ = some (.slice Ao51 x265002_9.length co51) := (blk_cell BK264.out 2).trans rfl; have hcz72_3 : w69.cell? ⟨gb264, 3, none⟩ = some (u265003) := (blk_cell BK264.out 3).trans rfl; have hcz72_4 : w69.cell? ⟨gb264, 4, none⟩ = some (u265004) := (blk_cell BK264.out 4).trans rfl; have hfz72_0 := blk_frozen BK264.out 0; have hfz72_1 := blk_frozen BK264.out 1; have hfz72_2 := blk_frozen BK264.out 2; have hfz72_3 := blk_frozen BK264.out 3; have hfz72_4 := blk_frozen BK264.out 4))
                          go_meet
                          case rel => exact ⟨_, ((-2)), (y283), (.slice Ao71 y283.length co71), (by first | rfl | (simp; done) | (simp [*]; done)), H', ⟨by have := HK1.out; have := HJ9.out; have := HJ47.out; first | omega | exact Nat.le_refl _⟩, ⟨by (with_reducible repeat (first | apply Kd.R_alloc | apply Kd.R_drewN | apply Kd.R_drew)); exact Kd.R_mono (Kd.R_far (p := ⟨gb264, 2, none⟩) (Kd.R_types HO_265000.out BK264.out (by decide)) (fun _ hk => hk.2) (.slice Ao71 y283.length co71)) (fun _ hk => ⟨hk.1.1.1, ⟨hk.1.2, ⟨hk.1.1.2.1, hk.1.1.2.2.1⟩⟩⟩)⟩, ⟨by (with_reducible repeat (first | apply Kd.R_alloc | apply Kd.R_drewN | apply Kd.R_drew)); exact Kd.R_mono (Kd.R_far (p := ⟨gb264, 2, none⟩) (Kd.R_types HO_265001.out BK264.out (by decide)) (fun _ hk => hk.2) (.slice Ao71 y283.length co71)) (fun _ hk => ⟨hk.1.1.1, ⟨hk.1.2, ⟨hk.1.1.2.1, hk.1.1.2.2.1⟩⟩⟩)⟩, ⟨by (with_reducible repeat (first | apply Kd.R_alloc | apply Kd.R_drewN | apply Kd.R_drew)); exact Kd.R_mono (Kd.R_far (p := ⟨gb264, 2, none⟩) (Kd.R_types HO285.out BK264.out (by decide)) (fun _ hk => hk.2) (.slice Ao71 y283.length co71)) (fun _ hk => ⟨hk.1.1, ⟨hk.1.2.1, ⟨hk.1.2.2.1, hk.1.2.2.2.1⟩⟩⟩)⟩, ⟨by (with_reducible repeat (first | apply Kd.R_alloc | apply Kd.R_drewN | apply Kd.R_drew)); exact Kd.R_mono (Kd.R_far (p := ⟨gb264, 2, none⟩) (Kd.R_types HO_265003.out BK264.out (by decide)) (fun _ hk => hk.2) (.slice Ao71 y283.length co71)) (fun _ hk => ⟨hk.1.1.1, ⟨hk.1.1.2.1, ⟨hk.1.2, hk.1.1.2.2.1⟩⟩⟩)⟩, ⟨by (with_reducible repeat (first | apply Kd.R_alloc | apply Kd.R_drewN | apply Kd.R_drew)); exact Kd.R_mono (Kd.R_far (p := ⟨gb264, 2, none⟩) (Kd.R_types HO_265004.out BK264.out (by decide)) (fun _ hk => hk.2) (.slice Ao71 y283.length co71)) (fun _ hk => ⟨hk.1.1.1, ⟨hk.1.1.2.1, ⟨hk.1.2, hk.1.1.2.2.1⟩⟩⟩)⟩, ⟨by (with_reducible repeat (first | refine blk_drewN ?_ _ | refine blk_drew ?_ | refine blk_alloc ?_ _)); refine blk_far ?_ NB260_264.out _; (with_reducible repeat (first | refine blk_drewN ?_ _ | refine blk_drew ?_ | refine blk_alloc ?_ _)); exact BK260.out⟩, ⟨by (with_reducible repeat (first | refine blk_drewN ?_ _ | refine blk_drew ?_ | refine blk_alloc ?_ _)); refine blk_put (cs := #[u265000, u265001, .slice Ao51 x265002_9.length co51, u265003, u265004]) ?_ 2 _ rfl; (with_reducible repeat (first | refine blk_drewN ?_ _ | refine blk_drew ?_ | refine blk_alloc ?_ _)); exact BK264.out⟩, ⟨by repeat (first | (with_reducible first | exact HB.out | apply below_alloc | apply pw_below_drewN | apply below_drew1 | refine below_set ?_ GE260.out | refine below_set ?_ GE264.out) | exact HB.out)⟩⟩
                        · rw [if_neg c64] at H
                          exact absurd H (by simp)
                      · replace c63 := Bool.eq_false_iff.mpr c63
                        subst c63
                        have H1 : (impl_match.j4 kj47 a0 x6_9 x8_47 (a0.size : Int) x14_1 x265000_9 x265001_9 x265002_9 x265003_9 x265004_9) = some (r1, r2, r3, r4, r5) := by rw [if_neg (show ¬ (false = true) by decide)] at H; exact H
                        clear H
                        have H := H1
                        clear H1
                        have H' := Aside0.mk H
                        clear H
                        go_wp2
                        go_meet
                        case rel => exact ⟨_, (x6_9), (x265002_9), (.slice Ao51 x265002_9.length co51), (by first | rfl | (simp; done) | (simp [*]; done)), H', ⟨by have := HK1.out; have := HJ9.out; have := HJ47.out; first | omega | exact Nat.le_refl _⟩, ⟨by (with_reducible repeat (first | apply Kd.R_alloc | apply Kd.R_drewN | apply Kd.R_drew)); exact HO_265000.out⟩, ⟨by (with_reducible repeat (first | apply Kd.R_alloc | apply Kd.R_drewN | apply Kd.R_drew)); exact HO_265001.out⟩, ⟨by (with_reducible repeat (first | apply Kd.R_alloc | apply Kd.R_drewN | apply Kd.R_drew)); exact HO_265002.out⟩, ⟨by (with_reducible repeat (first | apply Kd.R_alloc | apply Kd.R_drewN | apply Kd.R_drew)); exact HO_265003.out⟩, ⟨by (with_reducible repeat (first | apply Kd.R_alloc | apply Kd.R_drewN | apply Kd.R_drew)); exact HO_265004.out⟩, ⟨by (with_reducible repeat (first | refine blk_drewN ?_ _ | refine blk_drew ?_ | refine blk_alloc ?_ _)); exact BK260.out⟩, ⟨by (with_reducible repeat (first | refine blk_drewN ?_ _ | refine blk_drew ?_ | refine blk_alloc ?_ _)); exact BK264.out⟩, ⟨by repeat (first | (with_reducible first | exact HB.out | apply below_alloc | apply pw_below_drewN | apply below_drew1 | refine below_set ?_ GE260.out | refine below_set ?_ GE264.out) | exact HB.out)⟩⟩
                    case rest =>
                      clear HC62
                      try clear c1
                      try clear p1
                      try clear q1
                      try clear hx1
                      try clear c2
                      try clear p2
                      try clear q2
                      try clear hx2
                      try clear c3
                      try clear p3
                      try clear q3
                      try clear hx3
                      try clear c4
                      try clear p4
                      try clear q4
                      try clear hx4
                      try clear hf4
                      try clear c5
                      try clear c6
                      try clear p6
                      try clear q6
                      try clear hx6
                      try clear c7
                      try clear c9
                      try clear c9b0
                      try clear c11
                      try clear c15
                      try clear c15b0
                      try clear c15b1
                      try clear c16
                      try clear c16b0
                      try clear p17
                      try clear q17
                      try clear hx17
                      try clear c19
                      try clear c20
                      try clear c21
                      try clear c22
                      try clear p27
                      try clear q27
                      try clear hx27
                      try clear c30
                      try clear c30b0
                      try clear c31
                      try clear c31b0
                      try clear p32
                      try clear q32
                      try clear hx32
                      try clear c34
                      try clear c36
                      try clear c36b0
                      try clear c37
                      try clear c37b0
                      try clear c38
                      try clear c38b0
                      try clear c39
                      try clear c39b0
                      try clear c40
                      try clear p40
                      try clear q40
                      try clear hx40
                      try clear hf40
                      try clear c41
                      try clear c41b0
                      try clear c41b1
                      try clear c42
                      try clear q47
                      try clear c49
                      try clear c50
                      try clear c51
                      try clear c52
                      try clear c52b0
                      try clear c52b1
                      try clear c54
                      try clear c54b0
                      try clear c55
                      try clear c55b0
                      try clear c56
                      try clear c58
                      try clear c58b0
                      try clear c59
                      try clear c59b0
                      try clear p60
                      try clear q60
                      try clear hx60
                      try clear c63
                      try clear c64
                      try clear p64
                      try clear c65
                      try clear hcz12_0
                      try clear hcz12_1
                      try clear hcz12_2
                      try clear hcz12_3
                      try clear hcz12_4
                      try clear hcz23_0
                      try clear hcz23_1
                      try clear hcz23_2
                      try clear hcz23_3
                      try clear hcz23_4
                      try clear hcz29_0
                      try clear hcz29_1
                      try clear hcz29_2
                      try clear hcz29_3
                      try clear hcz29_4
                      try clear hcz43_0
                      try clear hcz43_1
                      try clear hcz43_2
                      try clear hcz43_3
                      try clear hcz43_4
                      try clear hcz46_0
                      try clear hcz46_1
                      try clear hcz46_2
                      try clear hcz46_3
                      try clear hcz46_4
                      try clear hcz50_0
                      try clear hcz50_1
                      try clear hcz50_2
                      try clear hcz50_3
                      try clear hcz50_4
                      try clear hcz57_0
                      try clear hcz57_1
                      try clear hcz57_2
                      try clear hcz57_3
                      try clear hcz57_4
                      try clear hcz66_0
                      try clear hcz66_1
                      try clear hcz66_2
                      try clear hcz66_3
                      try clear hcz66_4
                      try clear hcz72_0
                      try clear hcz72_1
                      try clear hcz72_2
                      try clear hcz72_3
                      try clear hcz72_4
                      try clear hcz8_0
                      try clear hcz8_1
                      try clear hcz8_2
                      try clear hcz8_3
                      try clear hcz8_4
                      try clear hfz12_0
                      try clear hfz12_1
                      try clear hfz12_2
                      try clear hfz12_3
                      try clear hfz12_4
                      try clear hfz23_0
                      try clear hfz23_1
                      try clear hfz23_2
                      try clear hfz23_3
                      try clear hfz23_4
                      try clear hfz29_0
                      try clear hfz29_1
                      try clear hfz29_2
                      try clear hfz29_3
                      try clear hfz29_4
                      try clear hfz43_0
                      try clear hfz43_1
                      try clear hfz43_2
                      try clear hfz43_3
                      try clear hfz43_4
                      try clear hfz46_0
                      try clear hfz46_1
                      try clear hfz46_2
                      try clear hfz46_3
                      try clear hfz46_4
                      try clear hfz50_0
                      try clear hfz50_1
                      try clear hfz50_2
                      try clear hfz50_3
                      try clear hfz50_4
                      try clear hfz57_0
                      try clear hfz57_1
                      try clear hfz57_2
                      try clear hfz57_3
                      try clear hfz57_4
                      try clear hfz66_0
                      try clear hfz66_1
                      try clear hfz66_2
                      try clear hfz66_3
                      try clear hfz66_4
                      try clear hfz72_0
                      try clear hfz72_1
                      try clear hfz72_2
                      try clear hfz72_3
                      try clear hfz72_4
                      try clear hfz8_0
                      try clear hfz8_1
                      try clear hfz8_2
                      try clear hfz8_3
                      try clear hfz8_4
                      try clear hx273_0
                      try clear hx278_0
                      try clear hx40_0
                      try clear p1
                      try clear p17
                      try clear p2
                      try clear p27
                      try clear p273
                      try clear p278
                      try clear p3
                      try clear p32
                      try clear p4
                      try clear p40
                      try clear p6
                      try clear p60
                      try clear q1
                      try clear q17
                      try clear q2
                      try clear q27
                      try clear q273
                      try clear q278
                      try clear q3
                      try clear q32
                      try clear q4
                      try clear q40
                      try clear q47
                      try clear q60
                      obtain ⟨kq, x6_61, x265002_61, u265002, rfl, HA, HJ61, HO_265000, HO_265001, HO_265002, HO_265003, HO_265004, BK260, BK264, HB⟩ := hcut
                      cases kq with
                      | zero => exact absurd HA.out (by simp [impl_match.j4])
                      | succ kj61 =>
                        have H := HA.out
                        clear HA
                        simp only [impl_match.j4] at H
                        obtain ⟨y286, hy286⟩ : ∃ y_ : List Int, y_ = (([x6_61] : List Int)) := ⟨_, rfl⟩
                        replace H : (if x265000_9.length + y286.length < 17592186044416 then ((some (([x8_47] : List Int) : List Int)).bind fun y292 => (if x265004_9.length + y292.length < 17592186044416 then ((impl_size_int64.f x265002_61).bind fun t298 => ((some (([t298] : List Int) : List Int)).bind fun y299 => (if x265003_9.length + y299.length < 17592186044416 then (impl_match.l0 kj61 a0 (a0.size : Int) (wrap64 (x14_1 + 1)) (x265000_9 ++ y286) x265001_9 x265002_61 (x265003_9 ++ y299) (x265004_9 ++ y292)) else (none)))) else (none))) else (none)) = some (r1, r2, r3, r4, r5) := by first | (rw [hy286]; with_reducible exact H) | (have H2_ := (Option.bind_some _ _).symm.trans H; rw [hy286]; with_reducible exact H2_) | (have H2_ := (Option.bind_some _ _).symm.trans H; with_reducible exact H2_) | with_reducible exact H | (rw [hy286]; exact H) | exact H
                        have Ny286 := Aside0.mk hy286
                        clear hy286
                        by_cases c73 : x265000_9.length + y286.length < 17592186044416
                        · rw [if_pos c73] at H
                          have LMc73 := Aside0.mk c73
                          clear c73
                          obtain ⟨y289, hy289⟩ : ∃ y_ : List Int, y_ = (x265000_9 ++ y286) := ⟨_, rfl⟩
                          replace H : ((some (([x8_47] : List Int) : List Int)).bind fun y292 => (if x265004_9.length + y292.length < 17592186044416 then ((impl_size_int64.f x265002_61).bind fun t298 => ((some (([t298] : List Int) : List Int)).bind fun y299 => (if x265003_9.length + y299.length < 17592186044416 then (impl_match.l0 kj61 a0 (a0.size : Int) (wrap64 (x14_1 + 1)) y289 x265001_9 x265002_61 (x265003_9 ++ y299) (x265004_9 ++ y292)) else (none)))) else (none))) = some (r1, r2, r3, r4, r5) := by first | (rw [hy289]; with_reducible exact H) | (have H2_ := (Option.bind_some _ _).symm.trans H; rw [hy289]; with_reducible exact H2_) | (have H2_ := (Option.bind_some _ _).symm.trans H; with_reducible exact H2_) | with_reducible exact H | (rw [hy289]; exact H) | exact H
                          have Ny289 := Aside0.mk hy289
                          clear hy289
                          obtain ⟨y292, hy292⟩ : ∃ y_ : List Int, y_ = (([x8_47] : List Int)) := ⟨_, rfl⟩
                          replace H : (if x265004_9.length + y292.length < 17592186044416 then ((impl_size_int64.f x265002_61).bind fun t298 => ((some (([t298] : List Int) : List Int)).bind fun y299 => (if x265003_9.length + y299.length < 17592186044416 then (impl_match.l0 kj61 a0 (a0.size : Int) (wrap64 (x14_1 + 1)) y289 x265001_9 x265002_61 (x265003_9 ++ y299) (x265004_9 ++ y292)) else (none)))) else (none)) = some (r1, r2, r3, r4, r5) := by first | (rw [hy292]; with_reducible exact H) | (have H2_ := (Option.bind_some _ _).symm.trans H; rw [hy292]; with_reducible exact H2_) | (have H2_ := (Option.bind_some _ _).symm.trans H; with_reducible exact H2_) | with_reducible exact H | (rw [hy292]; exact H) | exact H
                          have Ny292 := Aside0.mk hy292
                          clear hy292
                          by_cases c74 : x265004_9.length + y292.length < 17592186044416
                          · rw [if_pos c74] at H
                            have LMc74 := Aside0.mk c74
                            clear c74
                            obtain ⟨y295, hy295⟩ : ∃ y_ : List Int, y_ = (x265004_9 ++ y292) := ⟨_, rfl⟩
                            replace H : ((impl_size_int64.f x265002_61).bind fun t298 => ((some (([t298] : List Int) : List Int)).bind fun y299 => (if x265003_9.length + y299.length < 17592186044416 then (impl_match.l0 kj61 a0 (a0.size : Int) (wrap64 (x14_1 + 1)) y289 x265001_9 x265002_61 (x265003_9 ++ y299) y295) else (none)))) = some (r1, r2, r3, r4, r5) := by first | (rw [hy295]; with_reducible exact H) | (have H2_ := (Option.bind_some _ _).symm.trans H; rw [hy295]; with_reducible exact H2_) | (have H2_ := (Option.bind_some _ _).symm.trans H; with_reducible exact H2_) | with_reducible exact H | (rw [hy295]; exact H) | exact H
                            have Ny295 := Aside0.mk hy295
                            clear hy295
                            replace H := Option.bind_eq_some_iff.mp H
                            obtain ⟨t298, A750, H⟩ := H
                            replace H : ((some (([t298] : List Int) : List Int)).bind fun y299 => (if x265003_9.length + y299.length < 17592186044416 then (impl_match.l0 kj61 a0 (a0.size : Int) (wrap64 (x14_1 + 1)) y289 x265001_9 x265002_61 (x265003_9 ++ y299) y295) else (none))) = some (r1, r2, r3, r4, r5) := H
                            have A75 := Aside0.mk A750
                            clear A750
                            obtain ⟨y299, hy299⟩ : ∃ y_ : List Int, y_ = (([t298] : List Int)) := ⟨_, rfl⟩
                            replace H : (if x265003_9.length + y299.length < 17592186044416 then (impl_match.l0 kj61 a0 (a0.size : Int) (wrap64 (x14_1 + 1)) y289 x265001_9 x265002_61 (x265003_9 ++ y299) y295) else (none)) = some (r1, r2, r3, r4, r5) := by first | (rw [hy299]; with_reducible exact H) | (have H2_ := (Option.bind_some _ _).symm.trans H; rw [hy299]; with_reducible exact H2_) | (have H2_ := (Option.bind_some _ _).symm.trans H; with_reducible exact H2_) | with_reducible exact H | (rw [hy299]; exact H) | exact H
                            have Ny299 := Aside0.mk hy299
                            clear hy299
                            by_cases c76 : x265003_9.length + y299.length < 17592186044416
                            · rw [if_pos c76] at H
                              have LMc76 := Aside0.mk c76
                              clear c76
                              obtain ⟨y302, hy302⟩ : ∃ y_ : List Int, y_ = (x265003_9 ++ y299) := ⟨_, rfl⟩
                              replace H : (impl_match.l0 kj61 a0 (a0.size : Int) (wrap64 (x14_1 + 1)) y289 x265001_9 x265002_61 y302 y295) = some (r1, r2, r3, r4, r5) := by first | (rw [hy302]; with_reducible exact H) | (have H2_ := (Option.bind_some _ _).symm.trans H; rw [hy302]; with_reducible exact H2_) | (have H2_ := (Option.bind_some _ _).symm.trans H; with_reducible exact H2_) | with_reducible exact H | (rw [hy302]; exact H) | exact H
                              have Ny302 := Aside0.mk hy302
                              clear hy302
                              have H' := Aside0.mk H
                              clear H
                              obtain ⟨Ao77, co77, eo77⟩ := Kd.R_slice HO_265000.out
                              subst eo77
                              obtain ⟨Ao78, co78, eo78⟩ := Kd.R_slice HO_265004.out
                              subst eo78
                              try go_wp2
                              have n0_ := Aside0.mk (Kd.R_drew HO_265000.out)
                              have n1_ := Aside0.mk (Kd.R_drew HO_265001.out)
                              have n2_ := Aside0.mk (Kd.R_drew HO_265002.out)
                              have n3_ := Aside0.mk (Kd.R_drew HO_265003.out)
                              have n4_ := Aside0.mk (Kd.R_drew HO_265004.out)
                              have n5_ := Aside0.mk (blk_drew BK260.out)
                              have n6_ := Aside0.mk (blk_drew BK264.out)
                              have n7_ := Aside0.mk (below_drew1 HB.out)
                              clear HO_265000
                              clear HO_265001
                              clear HO_265002
                              clear HO_265003
                              clear HO_265004
                              clear BK260
                              clear BK264
                              clear HB
                              have HO_265000 := n0_
                              have HO_265001 := n1_
                              have HO_265002 := n2_
                              have HO_265003 := n3_
                              have HO_265004 := n4_
                              have BK260 := n5_
                              have BK264 := n6_
                              have HB := n7_
                              clear n0_ n1_ n2_ n3_ n4_ n5_ n6_ n7_
                              refine start_ (n := 14) (S := fun w' => w'.cell? ⟨gb264, 0, none⟩ = some (.slice Ao77 x265000_9.length co77) ∧ w'.cell? ⟨gb264, 1, none⟩ = some (u265001) ∧ w'.cell? ⟨gb264, 2, none⟩ = some (u265002) ∧ w'.cell? ⟨gb264, 3, none⟩ = some (u265003) ∧ w'.cell? ⟨gb264, 4, none⟩ = some (.slice Ao78 x265004_9.length co78)) (ds := [11, 13]) #[false, false, false, false, false, false, false, false, false, false, false, false, false, false] (by kernel_rfl) rfl rfl ⟨(blk_cell BK264.out 0).trans rfl, (blk_cell BK264.out 1).trans rfl, (blk_cell BK264.out 2).trans rfl, (blk_cell BK264.out 3).trans rfl, (blk_cell BK264.out 4).trans rfl⟩ (fun hHeld => ?_); refine with_tabW impl_match.tab21 impl_match.bits21 (fun HT_ HW_ => ?_)
                              generalize wc.drew = w79 at HO_265000 HO_265001 HO_265002 HO_265003 HO_265004 BK260 BK264 HB hHeld ⊢
                              refine pure_ (i := 0) (N := some 79) (v := ?_) (a' := ?_) #[true, false, false, false, false, false, false, false, false, false, false, false, false, false] rfl rfl (any_of HT_.out (by kernel_rfl)) (fun _ _ _ h => h) (Or.inl ⟨by rfl, ?_⟩) ?_ ?_
                              rotate_left
                              · intro w'
                                go_simp
                                with_reducible rfl
                              rotate_left
                              · simp only [Act.put, List.setIfInBounds_toArray, List.set_cons_zero, List.set_cons_succ, i64_w, i32_w]
                                rfl
                              refine pure_ (i := 2) (N := some 81) (v := ?_) (a' := ?_) #[true, false, true, false, false, false, false, false, false, false, false, false, false, false] rfl rfl (any_of HT_.out (by kernel_rfl)) (fun _ _ _ h => h) (Or.inl ⟨by rfl, ?_⟩) ?_ ?_
                              rotate_left
                              · intro w'
                                go_simp
                                with_reducible rfl
                              rotate_left
                              · simp only [Act.put, List.setIfInBounds_toArray, List.set_cons_zero, List.set_cons_succ, i64_w, i32_w]
                                rfl
                              refine pure_ (i := 5) (N := some 84) (v := ?_) (a' := ?_) #[true, false, true, false, false, true, false, false, false, false, false, false, false, false] rfl rfl (any_of HT_.out (by kernel_rfl)) (fun _ _ _ h => h) (Or.inl ⟨by rfl, ?_⟩) ?_ ?_
                              rotate_left
                              · intro w'
                                go_simp
                                with_reducible rfl
                              rotate_left
                              · simp only [Act.put, List.setIfInBounds_toArray, List.set_cons_zero, List.set_cons_succ, i64_w, i32_w]
                                rfl
                              refine pure_ (i := 7) (N := some 86) (v := ?_) (a' := ?_) #[true, false, true, false, false, true, false, true, false, false, false, false, false, false] rfl rfl (any_of HT_.out (by kernel_rfl)) (fun _ _ _ h => h) (Or.inl ⟨by rfl, ?_⟩) ?_ ?_
                              rotate_left
                              · intro w'
                                go_simp
                                with_reducible rfl
                              rotate_left
                              · simp only [Act.put, List.setIfInBounds_toArray, List.set_cons_zero, List.set_cons_succ, i64_w, i32_w]
                                rfl
                              refine take_ (i := 1) (N := some 80) (v := ?_) (a' := ?_) #[true, true, true, false, false, true, false, true, false, false, false, false, false, false] rfl rfl (take_ofW HT_.out HW_.out (by kernel_rfl)) (fun _ _ _ h => h) (Or.inl ⟨by rfl, ?_⟩) hHeld ?_ ?_
                              rotate_left
                              · rintro w' ⟨s0, s1, s2, s3, s4⟩
                                go_simp
                                with_reducible rfl
                              rotate_left
                              · simp only [Act.put, List.setIfInBounds_toArray, List.set_cons_zero, List.set_cons_succ, i64_w, i32_w]
                                rfl
                              refine take_ (i := 6) (N := some 85) (v := ?_) (a' := ?_) #[true, true, true, false, false, true, true, true, false, false, false, false, false, false] rfl rfl (take_ofW HT_.out HW_.out (by kernel_rfl)) (fun _ _ _ h => h) (Or.inl ⟨by rfl, ?_⟩) hHeld ?_ ?_
                              rotate_left
                              · rintro w' ⟨s0, s1, s2, s3, s4⟩
                                go_simp
                                with_reducible rfl
                              rotate_left
                              · simp only [Act.put, List.setIfInBounds_toArray, List.set_cons_zero, List.set_cons_succ, i64_w, i32_w]
                                rfl
                              refine join_ (σ := Value × Value × Value) 4 #[true, true, true, true, true, true, true, true, true, false, true, false, false, false] (fun s_ => [(82, s_.1), (83, s_.2.1), (87, s_.2.2), (89, .pointer (some ⟨gb264, 0, none⟩))]) (fun s_ w' => (w'.cell? ⟨gb264, 0, none⟩ = some (.slice Ao77 x265000_9.length co77) ∧ w'.cell? ⟨gb264, 1, none⟩ = some (u265001) ∧ w'.cell? ⟨gb264, 2, none⟩ = some (u265002) ∧ w'.cell? ⟨gb264, 3, none⟩ = some (u265003) ∧ w'.cell? ⟨gb264, 4, none⟩ = some (.slice Ao78 x265004_9.length co78)) ∧ (Kd.R (Kd.int .i64) 2 w' w.heap.size (fun k_ => some k_ ≠ (s_.2.1 : Value).ownBlock ∧ some k_ ≠ (s_.2.2 : Value).ownBlock ∧ some k_ ≠ (u265001 : Value).ownBlock ∧ some k_ ≠ (u265002 : Value).ownBlock ∧ some k_ ≠ (u265003 : Value).ownBlock ∧ some k_ ≠ (.slice Ao78 x265004_9.length co78 : Value).ownBlock) s_.1 y286) ∧ (Kd.R (Kd.int .i64) 2 w' w.heap.size (fun k_ => some k_ ≠ (s_.1 : Value).ownBlock ∧ some k_ ≠ (s_.2.2 : Value).ownBlock ∧ some k_ ≠ (u265001 : Value).ownBlock ∧ some k_ ≠ (u265002 : Value).ownBlock ∧ some k_ ≠ (u265003 : Value).ownBlock ∧ some k_ ≠ (.slice Ao78 x265004_9.length co78 : Value).ownBlock) s_.2.1 y289) ∧ (Kd.R (Kd.int .i64) 2 w' w.heap.size (fun k_ => some k_ ≠ (s_.1 : Value).ownBlock ∧ some k_ ≠ (s_.2.1 : Value).ownBlock ∧ some k_ ≠ (u265001 : Value).ownBlock ∧ some k_ ≠ (u265002 : Value).ownBlock ∧ some k_ ≠ (u265003 : Value).ownBlock ∧ some k_ ≠ (.slice Ao78 x265004_9.length co78 : Value).ownBlock) s_.2.2 y292) ∧ (Kd.R (Kd.int .i64) 2 w' w.heap.size (fun k_ => some k_ ≠ (s_.1 : Value).ownBlock ∧ some k_ ≠ (s_.2.1 : Value).ownBlock ∧ some k_ ≠ (s_.2.2 : Value).ownBlock ∧ some k_ ≠ (u265002 : Value).ownBlock ∧ some k_ ≠ (u265003 : Value).ownBlock ∧ some k_ ≠ (.slice Ao78 x265004_9.length co78 : Value).ownBlock) u265001 x265001_9) ∧ (Kd.R (Kd.int .i64) 2 w' w.heap.size (fun k_ => some k_ ≠ (s_.1 : Value).ownBlock ∧ some k_ ≠ (s_.2.1 : Value).ownBlock ∧ some k_ ≠ (s_.2.2 : Value).ownBlock ∧ some k_ ≠ (u265001 : Value).ownBlock ∧ some k_ ≠ (u265003 : Value).ownBlock ∧ some k_ ≠ (.slice Ao78 x265004_9.length co78 : Value).ownBlock) u265002 x265002_61) ∧ (Kd.R (Kd.int .i64) 2 w' w.heap.size (fun k_ => some k_ ≠ (s_.1 : Value).ownBlock ∧ some k_ ≠ (s_.2.1 : Value).ownBlock ∧ some k_ ≠ (s_.2.2 : Value).ownBlock ∧ some k_ ≠ (u265001 : Value).ownBlock ∧ some k_ ≠ (u265002 : Value).ownBlock ∧ some k_ ≠ (.slice Ao78 x265004_9.length co78 : Value).ownBlock) u265003 x265003_9) ∧ (Kd.R (Kd.int .i64) 2 w' w.heap.size (fun k_ => some k_ ≠ (s_.1 : Value).ownBlock ∧ some k_ ≠ (s_.2.1 : Value).ownBlock ∧ some k_ ≠ (s_.2.2 : Value).ownBlock ∧ some k_ ≠ (u265001 : Value).ownBlock ∧ some k_ ≠ (u265002 : Value).ownBlock ∧ some k_ ≠ (u265003 : Value).ownBlock) (.slice Ao78 x265004_9.length co78) x265004_9) ∧ (w'.heap[gb260]? = some (.cells #[.slice none 0 0, .slice none 0 0, .slice none 0 0, .slice none 0 0, .slice none 0 0] 60 (0, 0))) ∧ (w'.heap[gb264]? = some (.cells #[.slice Ao77 x265000_9.length co77, u265001, u265002, u265003, .slice Ao78 x265004_9.length co78] 60 (0, 0))) ∧ (Below w.heap.size w w')) ?_ ?_
                              rotate_left
                              · intro hCont
                                refine two_ (i := 3) (j := 8) (Ni := some 82) (Nj := some 87) #[true, true, true, true, false, true, true, true, false, false, false, false, false, false] #[true, true, true, false, false, true, true, true, true, false, false, false, false, false] rfl rfl rfl rfl (two_of HT_.out (by kernel_rfl)) (by decide) (by decide) (fun K hK => ?_) (fun K hK => ?_)
                                · skip
                                  refine Kd.R_lit_step (Kd.int .i64) _ 2 ?hg (N := 82) ?hd (xs := ([x6_61] : List Int)) (inner := [.int .i64 x6_61]) (ok := fun _ => True) (okp := fun _ => True) ?hr ?hp (fun _ hk => hk) trivial (Below.refl _ _) (Nat.le_refl _) (by simp) ?_; (case hd => rfl); (case hg => rfl); (case hr => first | (go_simp; done) | (go_simp; rfl)); (case hp => exact (Reps.one (show Kd.M (Kd.int .i64) _ _ _ x6_61 [.int .i64 x6_61] from rfl) (Reps.none _ _)))
                                  intro v287 w80 ho81 hb hg_ hnew_
                                  clear hg_ hnew_
                                  (first | rw [← Ny286.out] at ho81 | (simp only [Int.reduceToNat] at ho81; rw [← Ny286.out] at ho81))
                                  have n0_ := Aside0.mk (Kd.R_elder' (by (with_reducible repeat (first | apply Kd.R_alloc | apply Kd.R_drewN | apply Kd.R_drew)); exact HO_265000.out) (Kd.R_base ho81) hb)
                                  have n1_ := Aside0.mk (Kd.R_elder' (by (with_reducible repeat (first | apply Kd.R_alloc | apply Kd.R_drewN | apply Kd.R_drew)); exact HO_265001.out) (Kd.R_base ho81) hb)
                                  have n2_ := Aside0.mk (Kd.R_elder' (by (with_reducible repeat (first | apply Kd.R_alloc | apply Kd.R_drewN | apply Kd.R_drew)); exact HO_265002.out) (Kd.R_base ho81) hb)
                                  have n3_ := Aside0.mk (Kd.R_elder' (by (with_reducible repeat (first | apply Kd.R_alloc | apply Kd.R_drewN | apply Kd.R_drew)); exact HO_265003.out) (Kd.R_base ho81) hb)
                                  have n4_ := Aside0.mk (Kd.R_elder' (by (with_reducible repeat (first | apply Kd.R_alloc | apply Kd.R_drewN | apply Kd.R_drew)); exact HO_265004.out) (Kd.R_base ho81) hb)
                                  have n5_ := Aside0.mk (Kd.R_lower (Kd.R_new' (Kd.R_new' (Kd.R_new' (Kd.R_new' (Kd.R_new' ho81 (Kd.R_lt (by (with_reducible repeat (first | apply Kd.R_alloc | apply Kd.R_drewN | apply Kd.R_drew)); exact HO_265000.out))) (Kd.R_lt (by (with_reducible repeat (first | apply Kd.R_alloc | apply Kd.R_drewN | apply Kd.R_drew)); exact HO_265001.out))) (Kd.R_lt (by (with_reducible repeat (first | apply Kd.R_alloc | apply Kd.R_drewN | apply Kd.R_drew)); exact HO_265002.out))) (Kd.R_lt (by (with_reducible repeat (first | apply Kd.R_alloc | apply Kd.R_drewN | apply Kd.R_drew)); exact HO_265003.out))) (Kd.R_lt (by (with_reducible repeat (first | apply Kd.R_alloc | apply Kd.R_drewN | apply Kd.R_drew)); exact HO_265004.out))) (below_size (by repeat (first | (with_reducible first | exact HB.out | apply below_alloc | apply pw_below_drewN | apply below_drew1 | refine below_set ?_ GE260.out | refine below_set ?_ GE264.out) | exact HB.out))))
                                  have n6_ := Aside0.mk (blk_below (g := gb260) (o := .cells #[.slice none 0 0, .slice none 0 0, .slice none 0 0, .slice none 0 0, .slice none 0 0] 60 (0, 0)) (by (with_reducible repeat (first | refine blk_drewN ?_ _ | refine blk_drew ?_ | refine blk_alloc ?_ _)); exact BK260.out) hb)
                                  have n7_ := Aside0.mk (blk_below (g := gb264) (o := .cells #[.slice Ao77 x265000_9.length co77, u265001, u265002, u265003, .slice Ao78 x265004_9.length co78] 60 (0, 0)) (by (with_reducible repeat (first | refine blk_drewN ?_ _ | refine blk_drew ?_ | refine blk_alloc ?_ _)); exact BK264.out) hb)
                                  have n8_ := Aside0.mk (below_step (by repeat (first | (with_reducible first | exact HB.out | apply below_alloc | apply pw_below_drewN | apply below_drew1 | refine below_set ?_ GE260.out | refine below_set ?_ GE264.out) | exact HB.out)) hb)
                                  clear HO_265000
                                  clear HO_265001
                                  clear HO_265002
                                  clear HO_265003
                                  clear HO_265004
                                  clear BK260
                                  clear BK264
                                  clear HB
                                  have HO_265000 := n0_
                                  have HO_265001 := n1_
                                  have HO_265002 := n2_
                                  have HO_265003 := n3_
                                  have HO_265004 := n4_
                                  have HO288 := n5_
                                  have BK260 := n6_
                                  have BK264 := n7_
                                  have HB := n8_
                                  clear n0_ n1_ n2_ n3_ n4_ n5_ n6_ n7_ n8_
                                  clear hb ho81
                                  obtain ⟨Ao83, co83, eo83⟩ := Kd.R_slice HO288.out
                                  (first | subst eo83 | (injection eo83 with f1_ f2_ f3_; have f4_ := f1_.symm; have f5_ := f3_.symm; clear f1_ f2_ f3_; subst f4_; subst f5_))
                                  refine hK.out _ _ ⟨(blk_cell BK264.out 0).trans rfl, (blk_cell BK264.out 1).trans rfl, (blk_cell BK264.out 2).trans rfl, (blk_cell BK264.out 3).trans rfl, (blk_cell BK264.out 4).trans rfl⟩ (fun hHeld => ?_)
                                  clear hK K
                                  refine norm_ (a' := ?_) ?_ ?_
                                  rotate_left
                                  · show Act.put _ (some 82) _ = _
                                    simp only [Act.put, List.setIfInBounds_toArray, List.set_cons_zero, List.set_cons_succ, i64_w, i32_w]
                                    rfl
                                  refine two_ (i := 4) (j := 8) (Ni := some 83) (Nj := some 87) #[true, true, true, true, true, true, true, true, false, false, false, false, false, false] #[true, true, true, true, false, true, true, true, true, false, false, false, false, false] rfl rfl rfl rfl (two_of HT_.out (by kernel_rfl)) (by decide) (by decide) (fun K hK => ?_) (fun K hK => ?_)
                                  · skip
                                    refine Kd.R_append_rows_step (Kd.int .i64) (w0 := w) w.heap.size (by rfl) (.tmp 80) (.tmp 82) 33 2 (.int .i64 0) 8 rfl Try.underlying33 info2 rfl (by decide) (by omega) (.slice Ao77 x265000_9.length co77) x265000_9 y286 _ _ _ (fun k_ => some k_ ≠ (u265001 : Value).ownBlock ∧ some k_ ≠ (u265002 : Value).ownBlock ∧ some k_ ≠ (u265003 : Value).ownBlock ∧ some k_ ≠ (.slice Ao78 x265004_9.length co78 : Value).ownBlock ∧ some k_ ≠ (.slice Ao83 y286.length co83 : Value).ownBlock) (fun _ => False) rfl rfl ?aO ?aR (fun _ _ h => h) (fun _ h => h.elim) ?aF ?aB ?aS ?aL ?_
                                    (case aR => repeat (first | exact (Kd.R_reads' HO288.out).2.2 | (with_reducible refine Kd.C_alloc ?_ _) | (with_reducible refine Kd.C_drewN ?_ _) | (with_reducible refine Kd.C_drew ?_)))
                                    (case aB => exact (by repeat (first | (with_reducible first | exact HB.out | apply below_alloc | apply pw_below_drewN | apply below_drew1 | refine below_set ?_ GE260.out | refine below_set ?_ GE264.out) | exact HB.out)))
                                    (case aF => exact (fun k_ hk => ⟨Kd.fresh' (Kd.R_lt (by (with_reducible repeat (first | apply Kd.R_alloc | apply Kd.R_drewN | apply Kd.R_drew)); exact HO_265001.out)) k_ hk, Kd.fresh' (Kd.R_lt (by (with_reducible repeat (first | apply Kd.R_alloc | apply Kd.R_drewN | apply Kd.R_drew)); exact HO_265002.out)) k_ hk, Kd.fresh' (Kd.R_lt (by (with_reducible repeat (first | apply Kd.R_alloc | apply Kd.R_drewN | apply Kd.R_drew)); exact HO_265003.out)) k_ hk, Kd.fresh' (Kd.R_lt (by (with_reducible repeat (first | apply Kd.R_alloc | apply Kd.R_drewN | apply Kd.R_drew)); exact HO_265004.out)) k_ hk, Kd.fresh' (Kd.R_lt (by (with_reducible repeat (first | apply Kd.R_alloc | apply Kd.R_drewN | apply Kd.R_drew)); exact HO288.out)) k_ hk⟩))
                                    (case aO => exact (by (with_reducible repeat (first | apply Kd.R_alloc | apply Kd.R_drewN | apply Kd.R_drew)); exact Kd.R_mono HO_265000.out (fun _ hk => ⟨hk.1.1, ⟨hk.1.2.1, ⟨hk.1.2.2.1, ⟨hk.1.2.2.2, hk.2⟩⟩⟩⟩)))
                                    (case aS => exact (below_size (by repeat (first | (with_reducible first | exact HB.out | apply below_alloc | apply pw_below_drewN | apply below_drew1 | refine below_set ?_ GE260.out | refine below_set ?_ GE264.out) | exact HB.out))))
                                    (case aL => have := LMc73.out; omega)
                                    intro v290 w82 ho hb hg hat
                                    rw [← Ny289.out] at ho
                                    have n0_ := Aside0.mk (Kd.R_after (ok := (fun k_ => some k_ ≠ (u265002 : Value).ownBlock ∧ some k_ ≠ (u265003 : Value).ownBlock ∧ some k_ ≠ (.slice Ao78 x265004_9.length co78 : Value).ownBlock ∧ some k_ ≠ (.slice Ao83 y286.length co83 : Value).ownBlock)) (by (with_reducible repeat (first | apply Kd.R_alloc | apply Kd.R_drewN | apply Kd.R_drew)); exact Kd.R_mono HO_265001.out (fun _ hk => ⟨⟨hk.1.2.1, ⟨hk.1.2.2.1, ⟨hk.1.2.2.2, hk.2⟩⟩⟩, hk.1.1⟩)) hg hat)
                                    have n1_ := Aside0.mk (Kd.R_after (ok := (fun k_ => some k_ ≠ (u265001 : Value).ownBlock ∧ some k_ ≠ (u265003 : Value).ownBlock ∧ some k_ ≠ (.slice Ao78 x265004_9.length co78 : Value).ownBlock ∧ some k_ ≠ (.slice Ao83 y286.length co83 : Value).ownBlock)) (by (with_reducible repeat (first | apply Kd.R_alloc | apply Kd.R_drewN | apply Kd.R_drew)); exact Kd.R_mono HO_265002.out (fun _ hk => ⟨⟨hk.1.2.1, ⟨hk.1.2.2.1, ⟨hk.1.2.2.2, hk.2⟩⟩⟩, hk.1.1⟩)) hg hat)
                                    have n2_ := Aside0.mk (Kd.R_after (ok := (fun k_ => some k_ ≠ (u265001 : Value).ownBlock ∧ some k_ ≠ (u265002 : Value).ownBlock ∧ some k_ ≠ (.slice Ao78 x265004_9.length co78 : Value).ownBlock ∧ some k_ ≠ (.slice Ao83 y286.length co83 : Value).ownBlock)) (by (with_reducible repeat (first | apply Kd.R_alloc | apply Kd.R_drewN | apply Kd.R_drew)); exact Kd.R_mono HO_265003.out (fun _ hk => ⟨⟨hk.1.2.1, ⟨hk.1.2.2.1, ⟨hk.1.2.2.2, hk.2⟩⟩⟩, hk.1.1⟩)) hg hat)
                                    have n3_ := Aside0.mk (Kd.R_after (ok := (fun k_ => some k_ ≠ (u265001 : Value).ownBlock ∧ some k_ ≠ (u265002 : Value).ownBlock ∧ some k_ ≠ (u265003 : Value).ownBlock ∧ some k_ ≠ (.slice Ao83 y286.length co83 : Value).ownBlock)) (by (with_reducible repeat (first | apply Kd.R_alloc | apply Kd.R_drewN | apply Kd.R_drew)); exact Kd.R_mono HO_265004.out (fun _ hk => ⟨⟨hk.1.2.1, ⟨hk.1.2.2.1, ⟨hk.1.2.2.2, hk.2⟩⟩⟩, hk.1.1⟩)) hg hat)
                                    have n4_ := Aside0.mk (blk_grown (g := gb260) (o := .cells #[.slice none 0 0, .slice none 0 0, .slice none 0 0, .slice none 0 0, .slice none 0 0] 60 (0, 0)) (by (with_reducible repeat (first | refine blk_drewN ?_ _ | refine blk_drew ?_ | refine blk_alloc ?_ _)); exact BK260.out) hg (Kd.R_ne HO_265000.out BK260.out (by decide)))
                                    have n5_ := Aside0.mk (blk_grown (g := gb264) (o := .cells #[.slice Ao77 x265000_9.length co77, u265001, u265002, u265003, .slice Ao78 x265004_9.length co78] 60 (0, 0)) (by (with_reducible repeat (first | refine blk_drewN ?_ _ | refine blk_drew ?_ | refine blk_alloc ?_ _)); exact BK264.out) hg (Kd.R_ne HO_265000.out BK264.out (by decide)))
                                    have n6_ := Aside0.mk (Kd.R_after (ok := (fun k_ => some k_ ≠ (u265001 : Value).ownBlock ∧ some k_ ≠ (u265002 : Value).ownBlock ∧ some k_ ≠ (u265003 : Value).ownBlock ∧ some k_ ≠ (.slice Ao78 x265004_9.length co78 : Value).ownBlock)) (by (with_reducible repeat (first | apply Kd.R_alloc | apply Kd.R_drewN | apply Kd.R_drew)); exact Kd.R_mono HO288.out (fun _ hk => ⟨⟨hk.1.1.1.2, ⟨hk.1.1.2, ⟨hk.1.2, hk.2⟩⟩⟩, hk.1.1.1.1.2⟩)) hg hat)
                                    have n7_ := Aside0.mk (hb)
                                    have n8_ := Aside0.mk (ho)
                                    clear HO_265001
                                    clear HO_265002
                                    clear HO_265003
                                    clear HO_265004
                                    clear BK260
                                    clear BK264
                                    clear HO288
                                    clear HB
                                    clear HO_265000
                                    have HO_265001 := n0_
                                    have HO_265002 := n1_
                                    have HO_265003 := n2_
                                    have HO_265004 := n3_
                                    have BK260 := n4_
                                    have BK264 := n5_
                                    have HO288 := n6_
                                    have HB := n7_
                                    have HO291 := n8_
                                    clear n0_ n1_ n2_ n3_ n4_ n5_ n6_ n7_ n8_
                                    clear ho hb hg hat
                                    refine hK.out _ _ ⟨(blk_cell BK264.out 0).trans rfl, (blk_cell BK264.out 1).trans rfl, (blk_cell BK264.out 2).trans rfl, (blk_cell BK264.out 3).trans rfl, (blk_cell BK264.out 4).trans rfl⟩ (fun hHeld => ?_)
                                    clear hK K
                                    refine norm_ (a' := ?_) ?_ ?_
                                    rotate_left
                                    · show Act.put _ (some 83) _ = _
                                      simp only [Act.put, List.setIfInBounds_toArray, List.set_cons_zero, List.set_cons_succ, i64_w, i32_w]
                                      rfl
                                    refine pure_ (i := 10) (N := some 89) (v := ?_) (a' := ?_) #[true, true, true, true, true, true, true, true, false, false, true, false, false, false] rfl rfl (any_of HT_.out (by kernel_rfl)) (fun _ _ _ h => h) (Or.inl ⟨by rfl, ?_⟩) ?_ ?_
                                    rotate_left
                                    · intro w'
                                      go_simp
                                      with_reducible rfl
                                    rotate_left
                                    · simp only [Act.put, List.setIfInBounds_toArray, List.set_cons_zero, List.set_cons_succ, i64_w, i32_w]
                                      rfl
                                    refine one_ (i := 8) (N := some 87) #[true, true, true, true, true, true, true, true, true, false, true, false, false, false] rfl rfl (one_of HT_.out (by kernel_rfl)) (by decide) (fun K hK => ?_)
                                    refine Kd.R_lit_step (Kd.int .i64) _ 2 ?hg (N := 87) ?hd (xs := ([x8_47] : List Int)) (inner := [.int .i64 x8_47]) (ok := fun _ => True) (okp := fun _ => True) ?hr ?hp (fun _ hk => hk) trivial (Below.refl _ _) (Nat.le_refl _) (by simp) ?_; (case hd => rfl); (case hg => rfl); (case hr => first | (go_simp; done) | (go_simp; rfl)); (case hp => exact (Reps.one (show Kd.M (Kd.int .i64) _ _ _ x8_47 [.int .i64 x8_47] from rfl) (Reps.none _ _)))
                                    intro v293 w84 ho85 hb hg_ hnew_
                                    clear hg_ hnew_
                                    (first | rw [← Ny292.out] at ho85 | (simp only [Int.reduceToNat] at ho85; rw [← Ny292.out] at ho85))
                                    have n0_ := Aside0.mk (Kd.R_elder' (by (with_reducible repeat (first | apply Kd.R_alloc | apply Kd.R_drewN | apply Kd.R_drew)); exact HO_265001.out) (Kd.R_base ho85) hb)
                                    have n1_ := Aside0.mk (Kd.R_elder' (by (with_reducible repeat (first | apply Kd.R_alloc | apply Kd.R_drewN | apply Kd.R_drew)); exact HO_265002.out) (Kd.R_base ho85) hb)
                                    have n2_ := Aside0.mk (Kd.R_elder' (by (with_reducible repeat (first | apply Kd.R_alloc | apply Kd.R_drewN | apply Kd.R_drew)); exact HO_265003.out) (Kd.R_base ho85) hb)
                                    have n3_ := Aside0.mk (Kd.R_elder' (by (with_reducible repeat (first | apply Kd.R_alloc | apply Kd.R_drewN | apply Kd.R_drew)); exact HO_265004.out) (Kd.R_base ho85) hb)
                                    have n4_ := Aside0.mk (Kd.R_elder' (by (with_reducible repeat (first | apply Kd.R_alloc | apply Kd.R_drewN | apply Kd.R_drew)); exact HO288.out) (Kd.R_base ho85) hb)
                                    have n5_ := Aside0.mk (Kd.R_elder' (by (with_reducible repeat (first | apply Kd.R_alloc | apply Kd.R_drewN | apply Kd.R_drew)); exact HO291.out) (Kd.R_base ho85) hb)
                                    have n6_ := Aside0.mk (Kd.R_lower (Kd.R_new' (Kd.R_new' (Kd.R_new' (Kd.R_new' (Kd.R_new' (Kd.R_new' ho85 (Kd.R_lt (by (with_reducible repeat (first | apply Kd.R_alloc | apply Kd.R_drewN | apply Kd.R_drew)); exact HO_265001.out))) (Kd.R_lt (by (with_reducible repeat (first | apply Kd.R_alloc | apply Kd.R_drewN | apply Kd.R_drew)); exact HO_265002.out))) (Kd.R_lt (by (with_reducible repeat (first | apply Kd.R_alloc | apply Kd.R_drewN | apply Kd.R_drew)); exact HO_265003.out))) (Kd.R_lt (by (with_reducible repeat (first | apply Kd.R_alloc | apply Kd.R_drewN | apply Kd.R_drew)); exact HO_265004.out))) (Kd.R_lt (by (with_reducible repeat (first | apply Kd.R_alloc | apply Kd.R_drewN | apply Kd.R_drew)); exact HO288.out))) (Kd.R_lt (by (with_reducible repeat (first | apply Kd.R_alloc | apply Kd.R_drewN | apply Kd.R_drew)); exact HO291.out))) (below_size (by repeat (first | (with_reducible first | exact HB.out | apply below_alloc | apply pw_below_drewN | apply below_drew1 | refine below_set ?_ GE260.out | refine below_set ?_ GE264.out) | exact HB.out))))
                                    have n7_ := Aside0.mk (blk_below (g := gb260) (o := .cells #[.slice none 0 0, .slice none 0 0, .slice none 0 0, .slice none 0 0, .slice none 0 0] 60 (0, 0)) (by (with_reducible repeat (first | refine blk_drewN ?_ _ | refine blk_drew ?_ | refine blk_alloc ?_ _)); exact BK260.out) hb)
                                    have n8_ := Aside0.mk (blk_below (g := gb264) (o := .cells #[.slice Ao77 x265000_9.length co77, u265001, u265002, u265003, .slice Ao78 x265004_9.length co78] 60 (0, 0)) (by (with_reducible repeat (first | refine blk_drewN ?_ _ | refine blk_drew ?_ | refine blk_alloc ?_ _)); exact BK264.out) hb)
                                    have n9_ := Aside0.mk (below_step (by repeat (first | (with_reducible first | exact HB.out | apply below_alloc | apply pw_below_drewN | apply below_drew1 | refine below_set ?_ GE260.out | refine below_set ?_ GE264.out) | exact HB.out)) hb)
                                    clear HO_265001
                                    clear HO_265002
                                    clear HO_265003
                                    clear HO_265004
                                    clear HO288
                                    clear HO291
                                    clear BK260
                                    clear BK264
                                    clear HB
                                    have HO_265001 := n0_
                                    have HO_265002 := n1_
                                    have HO_265003 := n2_
                                    have HO_265004 := n3_
                                    have HO288 := n4_
                                    have HO291 := n5_
                                    have HO294 := n6_
                                    have BK260 := n7_
                                    have BK264 := n8_
                                    have HB := n9_
                                    clear n0_ n1_ n2_ n3_ n4_ n5_ n6_ n7_ n8_ n9_
                                    clear hb ho85
                                    refine hK.out _ _ ⟨(blk_cell BK264.out 0).trans rfl, (blk_cell BK264.out 1).trans rfl, (blk_cell BK264.out 2).trans rfl, (blk_cell BK264.out 3).trans rfl, (blk_cell BK264.out 4).trans rfl⟩ (fun hHeld => ?_)
                                    clear hK K
                                    refine norm_ (a' := ?_) ?_ ?_
                                    rotate_left
                                    · show Act.put _ (some 87) _ = _
                                      simp only [Act.put, List.setIfInBounds_toArray, List.set_cons_zero, List.set_cons_succ, i64_w, i32_w]
                                      rfl
                                    exact norm_ (by simp only [putAll, Act.put, List.setIfInBounds_toArray, List.set_cons_zero, List.set_cons_succ]) (hCont (.slice Ao83 y286.length co83, v290, v293) _ ⟨hHeld, (by (with_reducible repeat (first | apply Kd.R_alloc | apply Kd.R_drewN | apply Kd.R_drew)); exact Kd.R_mono HO288.out (fun _ hk => ⟨hk.1.2, ⟨hk.2, ⟨hk.1.1.1, ⟨hk.1.1.2.1, ⟨hk.1.1.2.2.1, hk.1.1.2.2.2⟩⟩⟩⟩⟩)), (by (with_reducible repeat (first | apply Kd.R_alloc | apply Kd.R_drewN | apply Kd.R_drew)); exact Kd.R_mono HO291.out (fun _ hk => ⟨hk.1.2.2.2.2, ⟨hk.2, ⟨hk.1.1, ⟨hk.1.2.1, ⟨hk.1.2.2.1, hk.1.2.2.2.1⟩⟩⟩⟩⟩)), (by (with_reducible repeat (first | apply Kd.R_alloc | apply Kd.R_drewN | apply Kd.R_drew)); exact Kd.R_mono HO294.out (fun _ hk => ⟨hk.1.2, ⟨hk.2, ⟨hk.1.1.1.1.1.2, ⟨hk.1.1.1.1.2, ⟨hk.1.1.1.2, hk.1.1.2⟩⟩⟩⟩⟩)), (by (with_reducible repeat (first | apply Kd.R_alloc | apply Kd.R_drewN | apply Kd.R_drew)); exact Kd.R_mono HO_265001.out (fun _ hk => ⟨hk.1.1.2.2.2, ⟨hk.1.2, ⟨hk.2, ⟨hk.1.1.1, ⟨hk.1.1.2.1, hk.1.1.2.2.1⟩⟩⟩⟩⟩)), (by (with_reducible repeat (first | apply Kd.R_alloc | apply Kd.R_drewN | apply Kd.R_drew)); exact Kd.R_mono HO_265002.out (fun _ hk => ⟨hk.1.1.2.2.2, ⟨hk.1.2, ⟨hk.2, ⟨hk.1.1.1, ⟨hk.1.1.2.1, hk.1.1.2.2.1⟩⟩⟩⟩⟩)), (by (with_reducible repeat (first | apply Kd.R_alloc | apply Kd.R_drewN | apply Kd.R_drew)); exact Kd.R_mono HO_265003.out (fun _ hk => ⟨hk.1.1.2.2.2, ⟨hk.1.2, ⟨hk.2, ⟨hk.1.1.1, ⟨hk.1.1.2.1, hk.1.1.2.2.1⟩⟩⟩⟩⟩)), (by (with_reducible repeat (first | apply Kd.R_alloc | apply Kd.R_drewN | apply Kd.R_drew)); exact Kd.R_mono HO_265004.out (fun _ hk => ⟨hk.1.1.2.2.2, ⟨hk.1.2, ⟨hk.2, ⟨hk.1.1.1, ⟨hk.1.1.2.1, hk.1.1.2.2.1⟩⟩⟩⟩⟩)), (by (with_reducible repeat (first | refine blk_drewN ?_ _ | refine blk_drew ?_ | refine blk_alloc ?_ _)); exact BK260.out), (by (with_reducible repeat (first | refine blk_drewN ?_ _ | refine blk_drew ?_ | refine blk_alloc ?_ _)); exact BK264.out), (by repeat (first | (with_reducible first | exact HB.out | apply below_alloc | apply pw_below_drewN | apply below_drew1 | refine below_set ?_ GE260.out | refine below_set ?_ GE264.out) | exact HB.out))⟩)
                                  · skip
                                    refine Kd.R_lit_step (Kd.int .i64) _ 2 ?hg (N := 87) ?hd (xs := ([x8_47] : List Int)) (inner := [.int .i64 x8_47]) (ok := fun _ => True) (okp := fun _ => True) ?hr ?hp (fun _ hk => hk) trivial (Below.refl _ _) (Nat.le_refl _) (by simp) ?_; (case hd => rfl); (case hg => rfl); (case hr => first | (go_simp; done) | (go_simp; rfl)); (case hp => exact (Reps.one (show Kd.M (Kd.int .i64) _ _ _ x8_47 [.int .i64 x8_47] from rfl) (Reps.none _ _)))
                                    intro v293 w82 ho83 hb hg_ hnew_
                                    clear hg_ hnew_
                                    (first | rw [← Ny292.out] at ho83 | (simp only [Int.reduceToNat] at ho83; rw [← Ny292.out] at ho83))
                                    have n0_ := Aside0.mk (Kd.R_elder' (by (with_reducible repeat (first | apply Kd.R_alloc | apply Kd.R_drewN | apply Kd.R_drew)); exact HO_265000.out) (Kd.R_base ho83) hb)
                                    have n1_ := Aside0.mk (Kd.R_elder' (by (with_reducible repeat (first | apply Kd.R_alloc | apply Kd.R_drewN | apply Kd.R_drew)); exact HO_265001.out) (Kd.R_base ho83) hb)
                                    have n2_ := Aside0.mk (Kd.R_elder' (by (with_reducible repeat (first | apply Kd.R_alloc | apply Kd.R_drewN | apply Kd.R_drew)); exact HO_265002.out) (Kd.R_base ho83) hb)
                                    have n3_ := Aside0.mk (Kd.R_elder' (by (with_reducible repeat (first | apply Kd.R_alloc | apply Kd.R_drewN | apply Kd.R_drew)); exact HO_265003.out) (Kd.R_base ho83) hb)
                                    have n4_ := Aside0.mk (Kd.R_elder' (by (with_reducible repeat (first | apply Kd.R_alloc | apply Kd.R_drewN | apply Kd.R_drew)); exact HO_265004.out) (Kd.R_base ho83) hb)
                                    have n5_ := Aside0.mk (Kd.R_elder' (by (with_reducible repeat (first | apply Kd.R_alloc | apply Kd.R_drewN | apply Kd.R_drew)); exact HO288.out) (Kd.R_base ho83) hb)
                                    have n6_ := Aside0.mk (Kd.R_lower (Kd.R_new' (Kd.R_new' (Kd.R_new' (Kd.R_new' (Kd.R_new' (Kd.R_new' ho83 (Kd.R_lt (by (with_reducible repeat (first | apply Kd.R_alloc | apply Kd.R_drewN | apply Kd.R_drew)); exact HO_265000.out))) (Kd.R_lt (by (with_reducible repeat (first | apply Kd.R_alloc | apply Kd.R_drewN | apply Kd.R_drew)); exact HO_265001.out))) (Kd.R_lt (by (with_reducible repeat (first | apply Kd.R_alloc | apply Kd.R_drewN | apply Kd.R_drew)); exact HO_265002.out))) (Kd.R_lt (by (with_reducible repeat (first | apply Kd.R_alloc | apply Kd.R_drewN | apply Kd.R_drew)); exact HO_265003.out))) (Kd.R_lt (by (with_reducible repeat (first | apply Kd.R_alloc | apply Kd.R_drewN | apply Kd.R_drew)); exact HO_265004.out))) (Kd.R_lt (by (with_reducible repeat (first | apply Kd.R_alloc | apply Kd.R_drewN | apply Kd.R_drew)); exact HO288.out))) (below_size (by repeat (first | (with_reducible first | exact HB.out | apply below_alloc | apply pw_below_drewN | apply below_drew1 | refine below_set ?_ GE260.out | refine below_set ?_ GE264.out) | exact HB.out))))
                                    have n7_ := Aside0.mk (blk_below (g := gb260) (o := .cells #[.slice none 0 0, .slice none 0 0, .slice none 0 0, .slice none 0 0, .slice none 0 0] 60 (0, 0)) (by (with_reducible repeat (first | refine blk_drewN ?_ _ | refine blk_drew ?_ | refine blk_alloc ?_ _)); exact BK260.out) hb)
                                    have n8_ := Aside0.mk (blk_below (g := gb264) (o := .cells #[.slice Ao77 x265000_9.length co77, u265001, u265002, u265003, .slice Ao78 x265004_9.length co78] 60 (0, 0)) (by (with_reducible repeat (first | refine blk_drewN ?_ _ | refine blk_drew ?_ | refine blk_alloc ?_ _)); exact BK264.out) hb)
                                    have n9_ := Aside0.mk (below_step (by repeat (first | (with_reducible first | exact HB.out | apply below_alloc | apply pw_below_drewN | apply below_drew1 | refine below_set ?_ GE260.out | refine below_set ?_ GE264.out) | exact HB.out)) hb)
                                    clear HO_265000
                                    clear HO_265001
                                    clear HO_265002
                                    clear HO_265003
                                    clear HO_265004
                                    clear HO288
                                    clear BK260
                                    clear BK264
                                    clear HB
                                    have HO_265000 := n0_
                                    have HO_265001 := n1_
                                    have HO_265002 := n2_
                                    have HO_265003 := n3_
                                    have HO_265004 := n4_
                                    have HO288 := n5_
                                    have HO294 := n6_
                                    have BK260 := n7_
                                    have BK264 := n8_
                                    have HB := n9_
                                    clear n0_ n1_ n2_ n3_ n4_ n5_ n6_ n7_ n8_ n9_
                                    clear hb ho83
                                    obtain ⟨Ao85, co85, eo85⟩ := Kd.R_slice HO288.out
                                    (first | subst eo85 | (injection eo85 with f1_ f2_ f3_; have f4_ := f1_.symm; have f5_ := f3_.symm; clear f1_ f2_ f3_; subst f4_; subst f5_))
                                    refine hK.out _ _ ⟨(blk_cell BK264.out 0).trans rfl, (blk_cell BK264.out 1).trans rfl, (blk_cell BK264.out 2).trans rfl, (blk_cell BK264.out 3).trans rfl, (blk_cell BK264.out 4).trans rfl⟩ (fun hHeld => ?_)
                                    clear hK K
                                    refine norm_ (a' := ?_) ?_ ?_
                                    rotate_left
                                    · show Act.put _ (some 87) _ = _
                                      simp only [Act.put, List.setIfInBounds_toArray, List.set_cons_zero, List.set_cons_succ, i64_w, i32_w]
                                      rfl
                                    refine one_ (i := 4) (N := some 83) #[true, true, true, true, true, true, true, true, true, false, false, false, false, false] rfl rfl (one_of HT_.out (by kernel_rfl)) (by decide) (fun K hK => ?_)
                                    refine Kd.R_append_rows_step (Kd.int .i64) (w0 := w) w.heap.size (by rfl) (.tmp 80) (.tmp 82) 33 2 (.int .i64 0) 8 rfl Try.underlying33 info2 rfl (by decide) (by omega) (.slice Ao77 x265000_9.length co77) x265000_9 y286 _ _ _ (fun k_ => some k_ ≠ (u265001 : Value).ownBlock ∧ some k_ ≠ (u265002 : Value).ownBlock ∧ some k_ ≠ (u265003 : Value).ownBlock ∧ some k_ ≠ (.slice Ao78 x265004_9.length co78 : Value).ownBlock ∧ some k_ ≠ (.slice Ao85 y286.length co85 : Value).ownBlock ∧ some k_ ≠ (v293 : Value).ownBlock) (fun _ => False) rfl rfl ?aO ?aR (fun _ _ h => h) (fun _ h => h.elim) ?aF ?aB ?aS ?aL ?_
                                    (case aR => repeat (first | exact (Kd.R_reads' HO288.out).2.2 | (with_reducible refine Kd.C_alloc ?_ _) | (with_reducible refine Kd.C_drewN ?_ _) | (with_reducible refine Kd.C_drew ?_)))
                                    (case aB => exact (by repeat (first | (with_reducible first | exact HB.out | apply below_alloc | apply pw_below_drewN | apply below_drew1 | refine below_set ?_ GE260.out | refine below_set ?_ GE264.out) | exact HB.out)))
                                    (case aF => exact (fun k_ hk => ⟨Kd.fresh' (Kd.R_lt (by (with_reducible repeat (first | apply Kd.R_alloc | apply Kd.R_drewN | apply Kd.R_drew)); exact HO_265001.out)) k_ hk, Kd.fresh' (Kd.R_lt (by (with_reducible repeat (first | apply Kd.R_alloc | apply Kd.R_drewN | apply Kd.R_drew)); exact HO_265002.out)) k_ hk, Kd.fresh' (Kd.R_lt (by (with_reducible repeat (first | apply Kd.R_alloc | apply Kd.R_drewN | apply Kd.R_drew)); exact HO_265003.out)) k_ hk, Kd.fresh' (Kd.R_lt (by (with_reducible repeat (first | apply Kd.R_alloc | apply Kd.R_drewN | apply Kd.R_drew)); exact HO_265004.out)) k_ hk, Kd.fresh' (Kd.R_lt (by (with_reducible repeat (first | apply Kd.R_alloc | apply Kd.R_drewN | apply Kd.R_drew)); exact HO288.out)) k_ hk, Kd.fresh' (Kd.R_lt (by (with_reducible repeat (first | apply Kd.R_alloc | apply Kd.R_drewN | apply Kd.R_drew)); exact HO294.out)) k_ hk⟩))
                                    (case aO => exact (by (with_reducible repeat (first | apply Kd.R_alloc | apply Kd.R_drewN | apply Kd.R_drew)); exact Kd.R_mono HO_265000.out (fun _ hk => ⟨hk.1.1.1, ⟨hk.1.1.2.1, ⟨hk.1.1.2.2.1, ⟨hk.1.1.2.2.2, ⟨hk.1.2, hk.2⟩⟩⟩⟩⟩)))
                                    (case aS => exact (below_size (by repeat (first | (with_reducible first | exact HB.out | apply below_alloc | apply pw_below_drewN | apply below_drew1 | refine below_set ?_ GE260.out | refine below_set ?_ GE264.out) | exact HB.out))))
                                    (case aL => have := LMc73.out; omega)
                                    intro v290 w84 ho hb hg hat
                                    rw [← Ny289.out] at ho
                                    have n0_ := Aside0.mk (Kd.R_after (ok := (fun k_ => some k_ ≠ (u265002 : Value).ownBlock ∧ some k_ ≠ (u265003 : Value).ownBlock ∧ some k_ ≠ (.slice Ao78 x265004_9.length co78 : Value).ownBlock ∧ some k_ ≠ (.slice Ao85 y286.length co85 : Value).ownBlock ∧ some k_ ≠ (v293 : Value).ownBlock)) (by (with_reducible repeat (first | apply Kd.R_alloc | apply Kd.R_drewN | apply Kd.R_drew)); exact Kd.R_mono HO_265001.out (fun _ hk => ⟨⟨hk.1.1.2.1, ⟨hk.1.1.2.2.1, ⟨hk.1.1.2.2.2, ⟨hk.1.2, hk.2⟩⟩⟩⟩, hk.1.1.1⟩)) hg hat)
                                    have n1_ := Aside0.mk (Kd.R_after (ok := (fun k_ => some k_ ≠ (u265001 : Value).ownBlock ∧ some k_ ≠ (u265003 : Value).ownBlock ∧ some k_ ≠ (.slice Ao78 x265004_9.length co78 : Value).ownBlock ∧ some k_ ≠ (.slice Ao85 y286.length co85 : Value).ownBlock ∧ some k_ ≠ (v293 : Value).ownBlock)) (by (with_reducible repeat (first | apply Kd.R_alloc | apply Kd.R_drewN | apply Kd.R_drew)); exact Kd.R_mono HO_265002.out (fun _ hk => ⟨⟨hk.1.1.2.1, ⟨hk.1.1.2.2.1, ⟨hk.1.1.2.2.2, ⟨hk.1.2, hk.2⟩⟩⟩⟩, hk.1.1.1⟩)) hg hat)
                                    have n2_ := Aside0.mk (Kd.R_after (ok := (fun k_ => some k_ ≠ (u265001 : Value).ownBlock ∧ some k_ ≠ (u265002 : Value).ownBlock ∧ some k_ ≠ (.slice Ao78 x265004_9.length co78 : Value).ownBlock ∧ some k_ ≠ (.slice Ao85 y286.length co85 : Value).ownBlock ∧ some k_ ≠ (v293 : Value).ownBlock)) (by (with_reducible repeat (first | apply Kd.R_alloc | apply Kd.R_drewN | apply Kd.R_drew)); exact Kd.R_mono HO_265003.out (fun _ hk => ⟨⟨hk.1.1.2.1, ⟨hk.1.1.2.2.1, ⟨hk.1.1.2.2.2, ⟨hk.1.2, hk.2⟩⟩⟩⟩, hk.1.1.1⟩)) hg hat)
                                    have n3_ := Aside0.mk (Kd.R_after (ok := (fun k_ => some k_ ≠ (u265001 : Value).ownBlock ∧ some k_ ≠ (u265002 : Value).ownBlock ∧ some k_ ≠ (u265003 : Value).ownBlock ∧ some k_ ≠ (.slice Ao85 y286.length co85 : Value).ownBlock ∧ some k_ ≠ (v293 : Value).ownBlock)) (by (with_reducible repeat (first | apply Kd.R_alloc | apply Kd.R_drewN | apply Kd.R_drew)); exact Kd.R_mono HO_265004.out (fun _ hk => ⟨⟨hk.1.1.2.1, ⟨hk.1.1.2.2.1, ⟨hk.1.1.2.2.2, ⟨hk.1.2, hk.2⟩⟩⟩⟩, hk.1.1.1⟩)) hg hat)
                                    have n4_ := Aside0.mk (blk_grown (g := gb260) (o := .cells #[.slice none 0 0, .slice none 0 0, .slice none 0 0, .slice none 0 0, .slice none 0 0] 60 (0, 0)) (by (with_reducible repeat (first | refine blk_drewN ?_ _ | refine blk_drew ?_ | refine blk_alloc ?_ _)); exact BK260.out) hg (Kd.R_ne HO_265000.out BK260.out (by decide)))
                                    have n5_ := Aside0.mk (blk_grown (g := gb264) (o := .cells #[.slice Ao77 x265000_9.length co77, u265001, u265002, u265003, .slice Ao78 x265004_9.length co78] 60 (0, 0)) (by (with_reducible repeat (first | refine blk_drewN ?_ _ | refine blk_drew ?_ | refine blk_alloc ?_ _)); exact BK264.out) hg (Kd.R_ne HO_265000.out BK264.out (by decide)))
                                    have n6_ := Aside0.mk (Kd.R_after (ok := (fun k_ => some k_ ≠ (u265001 : Value).ownBlock ∧ some k_ ≠ (u265002 : Value).ownBlock ∧ some k_ ≠ (u265003 : Value).ownBlock ∧ some k_ ≠ (.slice Ao78 x265004_9.length co78 : Value).ownBlock ∧ some k_ ≠ (v293 : Value).ownBlock)) (by (with_reducible repeat (first | apply Kd.R_alloc | apply Kd.R_drewN | apply Kd.R_drew)); exact Kd.R_mono HO288.out (fun _ hk => ⟨⟨hk.1.1.1.1.2, ⟨hk.1.1.1.2, ⟨hk.1.1.2, ⟨hk.1.2, hk.2⟩⟩⟩⟩, hk.1.1.1.1.1.2⟩)) hg hat)
                                    have n7_ := Aside0.mk (Kd.R_after (ok := (fun k_ => some k_ ≠ (u265001 : Value).ownBlock ∧ some k_ ≠ (u265002 : Value).ownBlock ∧ some k_ ≠ (u265003 : Value).ownBlock ∧ some k_ ≠ (.slice Ao78 x265004_9.length co78 : Value).ownBlock ∧ some k_ ≠ (.slice Ao85 y286.length co85 : Value).ownBlock)) (by (with_reducible repeat (first | apply Kd.R_alloc | apply Kd.R_drewN | apply Kd.R_drew)); exact Kd.R_mono HO294.out (fun _ hk => ⟨⟨hk.1.1.1.1.2, ⟨hk.1.1.1.2, ⟨hk.1.1.2, ⟨hk.1.2, hk.2⟩⟩⟩⟩, hk.1.1.1.1.1.2⟩)) hg hat)
                                    have n8_ := Aside0.mk (hb)
                                    have n9_ := Aside0.mk (ho)
                                    clear HO_265001
                                    clear HO_265002
                                    clear HO_265003
                                    clear HO_265004
                                    clear BK260
                                    clear BK264
                                    clear HO288
                                    clear HO294
                                    clear HB
                                    clear HO_265000
                                    have HO_265001 := n0_
                                    have HO_265002 := n1_
                                    have HO_265003 := n2_
                                    have HO_265004 := n3_
                                    have BK260 := n4_
                                    have BK264 := n5_
                                    have HO288 := n6_
                                    have HO294 := n7_
                                    have HB := n8_
                                    have HO291 := n9_
                                    clear n0_ n1_ n2_ n3_ n4_ n5_ n6_ n7_ n8_ n9_
                                    clear ho hb hg hat
                                    refine hK.out _ _ ⟨(blk_cell BK264.out 0).trans rfl, (blk_cell BK264.out 1).trans rfl, (blk_cell BK264.out 2).trans rfl, (blk_cell BK264.out 3).trans rfl, (blk_cell BK264.out 4).trans rfl⟩ (fun hHeld => ?_)
                                    clear hK K
                                    refine norm_ (a' := ?_) ?_ ?_
                                    rotate_left
                                    · show Act.put _ (some 83) _ = _
                                      simp only [Act.put, List.setIfInBounds_toArray, List.set_cons_zero, List.set_cons_succ, i64_w, i32_w]
                                      rfl
                                    refine pure_ (i := 10) (N := some 89) (v := ?_) (a' := ?_) #[true, true, true, true, true, true, true, true, true, false, true, false, false, false] rfl rfl (any_of HT_.out (by kernel_rfl)) (fun _ _ _ h => h) (Or.inl ⟨by rfl, ?_⟩) ?_ ?_
                                    rotate_left
                                    · intro w'
                                      go_simp
                                      with_reducible rfl
                                    rotate_left
                                    · simp only [Act.put, List.setIfInBounds_toArray, List.set_cons_zero, List.set_cons_succ, i64_w, i32_w]
                                      rfl
                                    exact norm_ (by simp only [putAll, Act.put, List.setIfInBounds_toArray, List.set_cons_zero, List.set_cons_succ]) (hCont (.slice Ao85 y286.length co85, v290, v293) _ ⟨hHeld, (by (with_reducible repeat (first | apply Kd.R_alloc | apply Kd.R_drewN | apply Kd.R_drew)); exact Kd.R_mono HO288.out (fun _ hk => ⟨hk.2, ⟨hk.1.2.2.2.2, ⟨hk.1.1, ⟨hk.1.2.1, ⟨hk.1.2.2.1, hk.1.2.2.2.1⟩⟩⟩⟩⟩)), (by (with_reducible repeat (first | apply Kd.R_alloc | apply Kd.R_drewN | apply Kd.R_drew)); exact Kd.R_mono HO291.out (fun _ hk => ⟨hk.2.2.2.2.1, ⟨hk.2.2.2.2.2, ⟨hk.1, ⟨hk.2.1, ⟨hk.2.2.1, hk.2.2.2.1⟩⟩⟩⟩⟩)), (by (with_reducible repeat (first | apply Kd.R_alloc | apply Kd.R_drewN | apply Kd.R_drew)); exact Kd.R_mono HO294.out (fun _ hk => ⟨hk.1.2.2.2.2, ⟨hk.2, ⟨hk.1.1, ⟨hk.1.2.1, ⟨hk.1.2.2.1, hk.1.2.2.2.1⟩⟩⟩⟩⟩)), (by (with_reducible repeat (first | apply Kd.R_alloc | apply Kd.R_drewN | apply Kd.R_drew)); exact Kd.R_mono HO_265001.out (fun _ hk => ⟨hk.1.2.2.2.1, ⟨hk.2, ⟨hk.1.2.2.2.2, ⟨hk.1.1, ⟨hk.1.2.1, hk.1.2.2.1⟩⟩⟩⟩⟩)), (by (with_reducible repeat (first | apply Kd.R_alloc | apply Kd.R_drewN | apply Kd.R_drew)); exact Kd.R_mono HO_265002.out (fun _ hk => ⟨hk.1.2.2.2.1, ⟨hk.2, ⟨hk.1.2.2.2.2, ⟨hk.1.1, ⟨hk.1.2.1, hk.1.2.2.1⟩⟩⟩⟩⟩)), (by (with_reducible repeat (first | apply Kd.R_alloc | apply Kd.R_drewN | apply Kd.R_drew)); exact Kd.R_mono HO_265003.out (fun _ hk => ⟨hk.1.2.2.2.1, ⟨hk.2, ⟨hk.1.2.2.2.2, ⟨hk.1.1, ⟨hk.1.2.1, hk.1.2.2.1⟩⟩⟩⟩⟩)), (by (with_reducible repeat (first | apply Kd.R_alloc | apply Kd.R_drewN | apply Kd.R_drew)); exact Kd.R_mono HO_265004.out (fun _ hk => ⟨hk.1.2.2.2.1, ⟨hk.2, ⟨hk.1.2.2.2.2, ⟨hk.1.1, ⟨hk.1.2.1, hk.1.2.2.1⟩⟩⟩⟩⟩)), (by (with_reducible repeat (first | refine blk_drewN ?_ _ | refine blk_drew ?_ | refine blk_alloc ?_ _)); exact BK260.out), (by (with_reducible repeat (first | refine blk_drewN ?_ _ | refine blk_drew ?_ | refine blk_alloc ?_ _)); exact BK264.out), (by repeat (first | (with_reducible first | exact HB.out | apply below_alloc | apply pw_below_drewN | apply below_drew1 | refine below_set ?_ GE260.out | refine below_set ?_ GE264.out) | exact HB.out))⟩)
                                · skip
                                  refine Kd.R_lit_step (Kd.int .i64) _ 2 ?hg (N := 87) ?hd (xs := ([x8_47] : List Int)) (inner := [.int .i64 x8_47]) (ok := fun _ => True) (okp := fun _ => True) ?hr ?hp (fun _ hk => hk) trivial (Below.refl _ _) (Nat.le_refl _) (by simp) ?_; (case hd => rfl); (case hg => rfl); (case hr => first | (go_simp; done) | (go_simp; rfl)); (case hp => exact (Reps.one (show Kd.M (Kd.int .i64) _ _ _ x8_47 [.int .i64 x8_47] from rfl) (Reps.none _ _)))
                                  intro v293 w80 ho81 hb hg_ hnew_
                                  clear hg_ hnew_
                                  (first | rw [← Ny292.out] at ho81 | (simp only [Int.reduceToNat] at ho81; rw [← Ny292.out] at ho81))
                                  have n0_ := Aside0.mk (Kd.R_elder' (by (with_reducible repeat (first | apply Kd.R_alloc | apply Kd.R_drewN | apply Kd.R_drew)); exact HO_265000.out) (Kd.R_base ho81) hb)
                                  have n1_ := Aside0.mk (Kd.R_elder' (by (with_reducible repeat (first | apply Kd.R_alloc | apply Kd.R_drewN | apply Kd.R_drew)); exact HO_265001.out) (Kd.R_base ho81) hb)
                                  have n2_ := Aside0.mk (Kd.R_elder' (by (with_reducible repeat (first | apply Kd.R_alloc | apply Kd.R_drewN | apply Kd.R_drew)); exact HO_265002.out) (Kd.R_base ho81) hb)
                                  have n3_ := Aside0.mk (Kd.R_elder' (by (with_reducible repeat (first | apply Kd.R_alloc | apply Kd.R_drewN | apply Kd.R_drew)); exact HO_265003.out) (Kd.R_base ho81) hb)
                                  have n4_ := Aside0.mk (Kd.R_elder' (by (with_reducible repeat (first | apply Kd.R_alloc | apply Kd.R_drewN | apply Kd.R_drew)); exact HO_265004.out) (Kd.R_base ho81) hb)
                                  have n5_ := Aside0.mk (Kd.R_lower (Kd.R_new' (Kd.R_new' (Kd.R_new' (Kd.R_new' (Kd.R_new' ho81 (Kd.R_lt (by (with_reducible repeat (first | apply Kd.R_alloc | apply Kd.R_drewN | apply Kd.R_drew)); exact HO_265000.out))) (Kd.R_lt (by (with_reducible repeat (first | apply Kd.R_alloc | apply Kd.R_drewN | apply Kd.R_drew)); exact HO_265001.out))) (Kd.R_lt (by (with_reducible repeat (first | apply Kd.R_alloc | apply Kd.R_drewN | apply Kd.R_drew)); exact HO_265002.out))) (Kd.R_lt (by (with_reducible repeat (first | apply Kd.R_alloc | apply Kd.R_drewN | apply Kd.R_drew)); exact HO_265003.out))) (Kd.R_lt (by (with_reducible repeat (first | apply Kd.R_alloc | apply Kd.R_drewN | apply Kd.R_drew)); exact HO_265004.out))) (below_size (by repeat (first | (with_reducible first | exact HB.out | apply below_alloc | apply pw_below_drewN | apply below_drew1 | refine below_set ?_ GE260.out | refine below_set ?_ GE264.out) | exact HB.out))))
                                  have n6_ := Aside0.mk (blk_below (g := gb260) (o := .cells #[.slice none 0 0, .slice none 0 0, .slice none 0 0, .slice none 0 0, .slice none 0 0] 60 (0, 0)) (by (with_reducible repeat (first | refine blk_drewN ?_ _ | refine blk_drew ?_ | refine blk_alloc ?_ _)); exact BK260.out) hb)
                                  have n7_ := Aside0.mk (blk_below (g := gb264) (o := .cells #[.slice Ao77 x265000_9.length co77, u265001, u265002, u265003, .slice Ao78 x265004_9.length co78] 60 (0, 0)) (by (with_reducible repeat (first | refine blk_drewN ?_ _ | refine blk_drew ?_ | refine blk_alloc ?_ _)); exact BK264.out) hb)
                                  have n8_ := Aside0.mk (below_step (by repeat (first | (with_reducible first | exact HB.out | apply below_alloc | apply pw_below_drewN | apply below_drew1 | refine below_set ?_ GE260.out | refine below_set ?_ GE264.out) | exact HB.out)) hb)
                                  clear HO_265000
                                  clear HO_265001
                                  clear HO_265002
                                  clear HO_265003
                                  clear HO_265004
                                  clear BK260
                                  clear BK264
                                  clear HB
                                  have HO_265000 := n0_
                                  have HO_265001 := n1_
                                  have HO_265002 := n2_
                                  have HO_265003 := n3_
                                  have HO_265004 := n4_
                                  have HO294 := n5_
                                  have BK260 := n6_
                                  have BK264 := n7_
                                  have HB := n8_
                                  clear n0_ n1_ n2_ n3_ n4_ n5_ n6_ n7_ n8_
                                  clear hb ho81
                                  refine hK.out _ _ ⟨(blk_cell BK264.out 0).trans rfl, (blk_cell BK264.out 1).trans rfl, (blk_cell BK264.out 2).trans rfl, (blk_cell BK264.out 3).trans rfl, (blk_cell BK264.out 4).trans rfl⟩ (fun hHeld => ?_)
                                  clear hK K
                                  refine norm_ (a' := ?_) ?_ ?_
                                  rotate_left
                                  · show Act.put _ (some 87) _ = _
                                    simp only [Act.put, List.setIfInBounds_toArray, List.set_cons_zero, List.set_cons_succ, i64_w, i32_w]
                                    rfl
                                  refine one_ (i := 3) (N := some 82) #[true, true, true, true, false, true, true, true, true, false, false, false, false, false] rfl rfl (one_of HT_.out (by kernel_rfl)) (by decide) (fun K hK => ?_)
                                  refine Kd.R_lit_step (Kd.int .i64) _ 2 ?hg (N := 82) ?hd (xs := ([x6_61] : List Int)) (inner := [.int .i64 x6_61]) (ok := fun _ => True) (okp := fun _ => True) ?hr ?hp (fun _ hk => hk) trivial (Below.refl _ _) (Nat.le_refl _) (by simp) ?_; (case hd => rfl); (case hg => rfl); (case hr => first | (go_simp; done) | (go_simp; rfl)); (case hp => exact (Reps.one (show Kd.M (Kd.int .i64) _ _ _ x6_61 [.int .i64 x6_61] from rfl) (Reps.none _ _)))
                                  intro v287 w82 ho83 hb hg_ hnew_
                                  clear hg_ hnew_
                                  (first | rw [← Ny286.out] at ho83 | (simp only [Int.reduceToNat] at ho83; rw [← Ny286.out] at ho83))
                                  have n0_ := Aside0.mk (Kd.R_elder' (by (with_reducible repeat (first | apply Kd.R_alloc | apply Kd.R_drewN | apply Kd.R_drew)); exact HO_265000.out) (Kd.R_base ho83) hb)
                                  have n1_ := Aside0.mk (Kd.R_elder' (by (with_reducible repeat (first | apply Kd.R_alloc | apply Kd.R_drewN | apply Kd.R_drew)); exact HO_265001.out) (Kd.R_base ho83) hb)
                                  have n2_ := Aside0.mk (Kd.R_elder' (by (with_reducible repeat (first | apply Kd.R_alloc | apply Kd.R_drewN | apply Kd.R_drew)); exact HO_265002.out) (Kd.R_base ho83) hb)
                                  have n3_ := Aside0.mk (Kd.R_elder' (by (with_reducible repeat (first | apply Kd.R_alloc | apply Kd.R_drewN | apply Kd.R_drew)); exact HO_265003.out) (Kd.R_base ho83) hb)
                                  have n4_ := Aside0.mk (Kd.R_elder' (by (with_reducible repeat (first | apply Kd.R_alloc | apply Kd.R_drewN | apply Kd.R_drew)); exact HO_265004.out) (Kd.R_base ho83) hb)
                                  have n5_ := Aside0.mk (Kd.R_elder' (by (with_reducible repeat (first | apply Kd.R_alloc | apply Kd.R_drewN | apply Kd.R_drew)); exact HO294.out) (Kd.R_base ho83) hb)
                                  have n6_ := Aside0.mk (Kd.R_lower (Kd.R_new' (Kd.R_new' (Kd.R_new' (Kd.R_new' (Kd.R_new' (Kd.R_new' ho83 (Kd.R_lt (by (with_reducible repeat (first | apply Kd.R_alloc | apply Kd.R_drewN | apply Kd.R_drew)); exact HO_265000.out))) (Kd.R_lt (by (with_reducible repeat (first | apply Kd.R_alloc | apply Kd.R_drewN | apply Kd.R_drew)); exact HO_265001.out))) (Kd.R_lt (by (with_reducible repeat (first | apply Kd.R_alloc | apply Kd.R_drewN | apply Kd.R_drew)); exact HO_265002.out))) (Kd.R_lt (by (with_reducible repeat (first | apply Kd.R_alloc | apply Kd.R_drewN | apply Kd.R_drew)); exact HO_265003.out))) (Kd.R_lt (by (with_reducible repeat (first | apply Kd.R_alloc | apply Kd.R_drewN | apply Kd.R_drew)); exact HO_265004.out))) (Kd.R_lt (by (with_reducible repeat (first | apply Kd.R_alloc | apply Kd.R_drewN | apply Kd.R_drew)); exact HO294.out))) (below_size (by repeat (first | (with_reducible first | exact HB.out | apply below_alloc | apply pw_below_drewN | apply below_drew1 | refine below_set ?_ GE260.out | refine below_set ?_ GE264.out) | exact HB.out))))
                                  have n7_ := Aside0.mk (blk_below (g := gb260) (o := .cells #[.slice none 0 0, .slice none 0 0, .slice none 0 0, .slice none 0 0, .slice none 0 0] 60 (0, 0)) (by (with_reducible repeat (first | refine blk_drewN ?_ _ | refine blk_drew ?_ | refine blk_alloc ?_ _)); exact BK260.out) hb)
                                  have n8_ := Aside0.mk (blk_below (g := gb264) (o := .cells #[.slice Ao77 x265000_9.length co77, u265001, u265002, u265003, .slice Ao78 x265004_9.length co78] 60 (0, 0)) (by (with_reducible repeat (first | refine blk_drewN ?_ _ | refine blk_drew ?_ | refine blk_alloc ?_ _)); exact BK264.out) hb)
                                  have n9_ := Aside0.mk (below_step (by repeat (first | (with_reducible first | exact HB.out | apply below_alloc | apply pw_below_drewN | apply below_drew1 | refine below_set ?_ GE260.out | refine below_set ?_ GE264.out) | exact HB.out)) hb)
                                  clear HO_265000
                                  clear HO_265001
                                  clear HO_265002
                                  clear HO_265003
                                  clear HO_265004
                                  clear HO294
                                  clear BK260
                                  clear BK264
                                  clear HB
                                  have HO_265000 := n0_
                                  have HO_265001 := n1_
                                  have HO_265002 := n2_
                                  have HO_265003 := n3_
                                  have HO_265004 := n4_
                                  have HO294 := n5_
                                  have HO288 := n6_
                                  have BK260 := n7_
                                  have BK264 := n8_
                                  have HB := n9_
                                  clear n0_ n1_ n2_ n3_ n4_ n5_ n6_ n7_ n8_ n9_
                                  clear hb ho83
                                  obtain ⟨Ao85, co85, eo85⟩ := Kd.R_slice HO288.out
                                  (first | subst eo85 | (injection eo85 with f1_ f2_ f3_; have f4_ := f1_.symm; have f5_ := f3_.symm; clear f1_ f2_ f3_; subst f4_; subst f5_))
                                  refine hK.out _ _ ⟨(blk_cell BK264.out 0).trans rfl, (blk_cell BK264.out 1).trans rfl, (blk_cell BK264.out 2).trans rfl, (blk_cell BK264.out 3).trans rfl, (blk_cell BK264.out 4).trans rfl⟩ (fun hHeld => ?_)
                                  clear hK K
                                  refine norm_ (a' := ?_) ?_ ?_
                                  rotate_left
                                  · show Act.put _ (some 82) _ = _
                                    simp only [Act.put, List.setIfInBounds_toArray, List.set_cons_zero, List.set_cons_succ, i64_w, i32_w]
                                    rfl
                                  refine one_ (i := 4) (N := some 83) #[true, true, true, true, true, true, true, true, true, false, false, false, false, false] rfl rfl (one_of HT_.out (by kernel_rfl)) (by decide) (fun K hK => ?_)
                                  refine Kd.R_append_rows_step (Kd.int .i64) (w0 := w) w.heap.size (by rfl) (.tmp 80) (.tmp 82) 33 2 (.int .i64 0) 8 rfl Try.underlying33 info2 rfl (by decide) (by omega) (.slice Ao77 x265000_9.length co77) x265000_9 y286 _ _ _ (fun k_ => some k_ ≠ (u265001 : Value).ownBlock ∧ some k_ ≠ (u265002 : Value).ownBlock ∧ some k_ ≠ (u265003 : Value).ownBlock ∧ some k_ ≠ (.slice Ao78 x265004_9.length co78 : Value).ownBlock ∧ some k_ ≠ (v293 : Value).ownBlock ∧ some k_ ≠ (.slice Ao85 y286.length co85 : Value).ownBlock) (fun _ => False) rfl rfl ?aO ?aR (fun _ _ h => h) (fun _ h => h.elim) ?aF ?aB ?aS ?aL ?_
                                  (case aR => repeat (first | exact (Kd.R_reads' HO288.out).2.2 | (with_reducible refine Kd.C_alloc ?_ _) | (with_reducible refine Kd.C_drewN ?_ _) | (with_reducible refine Kd.C_drew ?_)))
                                  (case aB => exact (by repeat (first | (with_reducible first | exact HB.out | apply below_alloc | apply pw_below_drewN | apply below_drew1 | refine below_set ?_ GE260.out | refine below_set ?_ GE264.out) | exact HB.out)))
                                  (case aF => exact (fun k_ hk => ⟨Kd.fresh' (Kd.R_lt (by (with_reducible repeat (first | apply Kd.R_alloc | apply Kd.R_drewN | apply Kd.R_drew)); exact HO_265001.out)) k_ hk, Kd.fresh' (Kd.R_lt (by (with_reducible repeat (first | apply Kd.R_alloc | apply Kd.R_drewN | apply Kd.R_drew)); exact HO_265002.out)) k_ hk, Kd.fresh' (Kd.R_lt (by (with_reducible repeat (first | apply Kd.R_alloc | apply Kd.R_drewN | apply Kd.R_drew)); exact HO_265003.out)) k_ hk, Kd.fresh' (Kd.R_lt (by (with_reducible repeat (first | apply Kd.R_alloc | apply Kd.R_drewN | apply Kd.R_drew)); exact HO_265004.out)) k_ hk, Kd.fresh' (Kd.R_lt (by (with_reducible repeat (first | apply Kd.R_alloc | apply Kd.R_drewN | apply Kd.R_drew)); exact HO294.out)) k_ hk, Kd.fresh' (Kd.R_lt (by (with_reducible repeat (first | apply Kd.R_alloc | apply Kd.R_drewN | apply Kd.R_drew)); exact HO288.out)) k_ hk⟩))
                                  (case aO => exact (by (with_reducible repeat (first | apply Kd.R_alloc | apply Kd.R_drewN | apply Kd.R_drew)); exact Kd.R_mono HO_265000.out (fun _ hk => ⟨hk.1.1.1, ⟨hk.1.1.2.1, ⟨hk.1.1.2.2.1, ⟨hk.1.1.2.2.2, ⟨hk.1.2, hk.2⟩⟩⟩⟩⟩)))
                                  (case aS => exact (below_size (by repeat (first | (with_reducible first | exact HB.out | apply below_alloc | apply pw_below_drewN | apply below_drew1 | refine below_set ?_ GE260.out | refine below_set ?_ GE264.out) | exact HB.out))))
                                  (case aL => have := LMc73.out; omega)
                                  intro v290 w84 ho hb hg hat
                                  rw [← Ny289.out] at ho
                                  have n0_ := Aside0.mk (Kd.R_after (ok := (fun k_ => some k_ ≠ (u265002 : Value).ownBlock ∧ some k_ ≠ (u265003 : Value).ownBlock ∧ some k_ ≠ (.slice Ao78 x265004_9.length co78 : Value).ownBlock ∧ some k_ ≠ (v293 : Value).ownBlock ∧ some k_ ≠ (.slice Ao85 y286.length co85 : Value).ownBlock)) (by (with_reducible repeat (first | apply Kd.R_alloc | apply Kd.R_drewN | apply Kd.R_drew)); exact Kd.R_mono HO_265001.out (fun _ hk => ⟨⟨hk.1.1.2.1, ⟨hk.1.1.2.2.1, ⟨hk.1.1.2.2.2, ⟨hk.1.2, hk.2⟩⟩⟩⟩, hk.1.1.1⟩)) hg hat)
                                  have n1_ := Aside0.mk (Kd.R_after (ok := (fun k_ => some k_ ≠ (u265001 : Value).ownBlock ∧ some k_ ≠ (u265003 : Value).ownBlock ∧ some k_ ≠ (.slice Ao78 x265004_9.length co78 : Value).ownBlock ∧ some k_ ≠ (v293 : Value).ownBlock ∧ some k_ ≠ (.slice Ao85 y286.length co85 : Value).ownBlock)) (by (with_reducible repeat (first | apply Kd.R_alloc | apply Kd.R_drewN | apply Kd.R_drew)); exact Kd.R_mono HO_265002.out (fun _ hk => ⟨⟨hk.1.1.2.1, ⟨hk.1.1.2.2.1, ⟨hk.1.1.2.2.2, ⟨hk.1.2, hk.2⟩⟩⟩⟩, hk.1.1.1⟩)) hg hat)
                                  have n2_ := Aside0.mk (Kd.R_after (ok := (fun k_ => some k_ ≠ (u265001 : Value).ownBlock ∧ some k_ ≠ (u265002 : Value).ownBlock ∧ some k_ ≠ (.slice Ao78 x265004_9.length co78 : Value).ownBlock ∧ some k_ ≠ (v293 : Value).ownBlock ∧ some k_ ≠ (.slice Ao85 y286.length co85 : Value).ownBlock)) (by (with_reducible repeat (first | apply Kd.R_alloc | apply Kd.R_drewN | apply Kd.R_drew)); exact Kd.R_mono HO_265003.out (fun _ hk => ⟨⟨hk.1.1.2.1, ⟨hk.1.1.2.2.1, ⟨hk.1.1.2.2.2, ⟨hk.1.2, hk.2⟩⟩⟩⟩, hk.1.1.1⟩)) hg hat)
                                  have n3_ := Aside0.mk (Kd.R_after (ok := (fun k_ => some k_ ≠ (u265001 : Value).ownBlock ∧ some k_ ≠ (u265002 : Value).ownBlock ∧ some k_ ≠ (u265003 : Value).ownBlock ∧ some k_ ≠ (v293 : Value).ownBlock ∧ some k_ ≠ (.slice Ao85 y286.length co85 : Value).ownBlock)) (by (with_reducible repeat (first | apply Kd.R_alloc | apply Kd.R_drewN | apply Kd.R_drew)); exact Kd.R_mono HO_265004.out (fun _ hk => ⟨⟨hk.1.1.2.1, ⟨hk.1.1.2.2.1, ⟨hk.1.1.2.2.2, ⟨hk.1.2, hk.2⟩⟩⟩⟩, hk.1.1.1⟩)) hg hat)
                                  have n4_ := Aside0.mk (blk_grown (g := gb260) (o := .cells #[.slice none 0 0, .slice none 0 0, .slice none 0 0, .slice none 0 0, .slice none 0 0] 60 (0, 0)) (by (with_reducible repeat (first | refine blk_drewN ?_ _ | refine blk_drew ?_ | refine blk_alloc ?_ _)); exact BK260.out) hg (Kd.R_ne HO_265000.out BK260.out (by decide)))
                                  have n5_ := Aside0.mk (blk_grown (g := gb264) (o := .cells #[.slice Ao77 x265000_9.length co77, u265001, u265002, u265003, .slice Ao78 x265004_9.length co78] 60 (0, 0)) (by (with_reducible repeat (first | refine blk_drewN ?_ _ | refine blk_drew ?_ | refine blk_alloc ?_ _)); exact BK264.out) hg (Kd.R_ne HO_265000.out BK264.out (by decide)))
                                  have n6_ := Aside0.mk (Kd.R_after (ok := (fun k_ => some k_ ≠ (u265001 : Value).ownBlock ∧ some k_ ≠ (u265002 : Value).ownBlock ∧ some k_ ≠ (u265003 : Value).ownBlock ∧ some k_ ≠ (.slice Ao78 x265004_9.length co78 : Value).ownBlock ∧ some k_ ≠ (.slice Ao85 y286.length co85 : Value).ownBlock)) (by (with_reducible repeat (first | apply Kd.R_alloc | apply Kd.R_drewN | apply Kd.R_drew)); exact Kd.R_mono HO294.out (fun _ hk => ⟨⟨hk.1.1.1.1.2, ⟨hk.1.1.1.2, ⟨hk.1.1.2, ⟨hk.1.2, hk.2⟩⟩⟩⟩, hk.1.1.1.1.1.2⟩)) hg hat)
                                  have n7_ := Aside0.mk (Kd.R_after (ok := (fun k_ => some k_ ≠ (u265001 : Value).ownBlock ∧ some k_ ≠ (u265002 : Value).ownBlock ∧ some k_ ≠ (u265003 : Value).ownBlock ∧ some k_ ≠ (.slice Ao78 x265004_9.length co78 : Value).ownBlock ∧ some k_ ≠ (v293 : Value).ownBlock)) (by (with_reducible repeat (first | apply Kd.R_alloc | apply Kd.R_drewN | apply Kd.R_drew)); exact Kd.R_mono HO288.out (fun _ hk => ⟨⟨hk.1.1.1.1.2, ⟨hk.1.1.1.2, ⟨hk.1.1.2, ⟨hk.1.2, hk.2⟩⟩⟩⟩, hk.1.1.1.1.1.2⟩)) hg hat)
                                  have n8_ := Aside0.mk (hb)
                                  have n9_ := Aside0.mk (ho)
                                  clear HO_265001
                                  clear HO_265002
                                  clear HO_265003
                                  clear HO_265004
                                  clear BK260
                                  clear BK264
                                  clear HO294
                                  clear HO288
                                  clear HB
                                  clear HO_265000
                                  have HO_265001 := n0_
                                  have HO_265002 := n1_
                                  have HO_265003 := n2_
                                  have HO_265004 := n3_
                                  have BK260 := n4_
                                  have BK264 := n5_
                                  have HO294 := n6_
                                  have HO288 := n7_
                                  have HB := n8_
                                  have HO291 := n9_
                                  clear n0_ n1_ n2_ n3_ n4_ n5_ n6_ n7_ n8_ n9_
                                  clear ho hb hg hat
                                  refine hK.out _ _ ⟨(blk_cell BK264.out 0).trans rfl, (blk_cell BK264.out 1).trans rfl, (blk_cell BK264.out 2).trans rfl, (blk_cell BK264.out 3).trans rfl, (blk_cell BK264.out 4).trans rfl⟩ (fun hHeld => ?_)
                                  clear hK K
                                  refine norm_ (a' := ?_) ?_ ?_
                                  rotate_left
                                  · show Act.put _ (some 83) _ = _
                                    simp only [Act.put, List.setIfInBounds_toArray, List.set_cons_zero, List.set_cons_succ, i64_w, i32_w]
                                    rfl
                                  refine pure_ (i := 10) (N := some 89) (v := ?_) (a' := ?_) #[true, true, true, true, true, true, true, true, true, false, true, false, false, false] rfl rfl (any_of HT_.out (by kernel_rfl)) (fun _ _ _ h => h) (Or.inl ⟨by rfl, ?_⟩) ?_ ?_
                                  rotate_left
                                  · intro w'
                                    go_simp
                                    with_reducible rfl
                                  rotate_left
                                  · simp only [Act.put, List.setIfInBounds_toArray, List.set_cons_zero, List.set_cons_succ, i64_w, i32_w]
                                    rfl
                                  exact norm_ (by simp only [putAll, Act.put, List.setIfInBounds_toArray, List.set_cons_zero, List.set_cons_succ]) (hCont (.slice Ao85 y286.length co85, v290, v293) _ ⟨hHeld, (by (with_reducible repeat (first | apply Kd.R_alloc | apply Kd.R_drewN | apply Kd.R_drew)); exact Kd.R_mono HO288.out (fun _ hk => ⟨hk.2, ⟨hk.1.2.2.2.2, ⟨hk.1.1, ⟨hk.1.2.1, ⟨hk.1.2.2.1, hk.1.2.2.2.1⟩⟩⟩⟩⟩)), (by (with_reducible repeat (first | apply Kd.R_alloc | apply Kd.R_drewN | apply Kd.R_drew)); exact Kd.R_mono HO291.out (fun _ hk => ⟨hk.2.2.2.2.2, ⟨hk.2.2.2.2.1, ⟨hk.1, ⟨hk.2.1, ⟨hk.2.2.1, hk.2.2.2.1⟩⟩⟩⟩⟩)), (by (with_reducible repeat (first | apply Kd.R_alloc | apply Kd.R_drewN | apply Kd.R_drew)); exact Kd.R_mono HO294.out (fun _ hk => ⟨hk.1.2.2.2.2, ⟨hk.2, ⟨hk.1.1, ⟨hk.1.2.1, ⟨hk.1.2.2.1, hk.1.2.2.2.1⟩⟩⟩⟩⟩)), (by (with_reducible repeat (first | apply Kd.R_alloc | apply Kd.R_drewN | apply Kd.R_drew)); exact Kd.R_mono HO_265001.out (fun _ hk => ⟨hk.1.2.2.2.2, ⟨hk.2, ⟨hk.1.2.2.2.1, ⟨hk.1.1, ⟨hk.1.2.1, hk.1.2.2.1⟩⟩⟩⟩⟩)), (by (with_reducible repeat (first | apply Kd.R_alloc | apply Kd.R_drewN | apply Kd.R_drew)); exact Kd.R_mono HO_265002.out (fun _ hk => ⟨hk.1.2.2.2.2, ⟨hk.2, ⟨hk.1.2.2.2.1, ⟨hk.1.1, ⟨hk.1.2.1, hk.1.2.2.1⟩⟩⟩⟩⟩)), (by (with_reducible repeat (first | apply Kd.R_alloc | apply Kd.R_drewN | apply Kd.R_drew)); exact Kd.R_mono HO_265003.out (fun _ hk => ⟨hk.1.2.2.2.2, ⟨hk.2, ⟨hk.1.2.2.2.1, ⟨hk.1.1, ⟨hk.1.2.1, hk.1.2.2.1⟩⟩⟩⟩⟩)), (by (with_reducible repeat (first | apply Kd.R_alloc | apply Kd.R_drewN | apply Kd.R_drew)); exact Kd.R_mono HO_265004.out (fun _ hk => ⟨hk.1.2.2.2.2, ⟨hk.2, ⟨hk.1.2.2.2.1, ⟨hk.1.1, ⟨hk.1.2.1, hk.1.2.2.1⟩⟩⟩⟩⟩)), (by (with_reducible repeat (first | refine blk_drewN ?_ _ | refine blk_drew ?_ | refine blk_alloc ?_ _)); exact BK260.out), (by (with_reducible repeat (first | refine blk_drewN ?_ _ | refine blk_drew ?_ | refine blk_alloc ?_ _)); exact BK264.out), (by repeat (first | (with_reducible first | exact HB.out | apply below_alloc | apply pw_below_drewN | apply below_drew1 | refine below_set ?_ GE260.out | refine below_set ?_ GE264.out) | exact HB.out))⟩)
                              rintro ⟨v287, v290, v293⟩ w86 ⟨hS_, h0_, h1_, h2_, h3_, h4_, h5_, h6_, h7_, h8_, h9_⟩
                              have n0_ : Aside0 (Kd.R (Kd.int .i64) 2 w86 w.heap.size (fun k_ => some k_ ≠ (v290 : Value).ownBlock ∧ some k_ ≠ (v293 : Value).ownBlock ∧ some k_ ≠ (u265001 : Value).ownBlock ∧ some k_ ≠ (u265002 : Value).ownBlock ∧ some k_ ≠ (u265003 : Value).ownBlock ∧ some k_ ≠ (.slice Ao78 x265004_9.length co78 : Value).ownBlock) v287 y286) := ⟨h0_⟩
                              have n1_ : Aside0 (Kd.R (Kd.int .i64) 2 w86 w.heap.size (fun k_ => some k_ ≠ (v287 : Value).ownBlock ∧ some k_ ≠ (v293 : Value).ownBlock ∧ some k_ ≠ (u265001 : Value).ownBlock ∧ some k_ ≠ (u265002 : Value).ownBlock ∧ some k_ ≠ (u265003 : Value).ownBlock ∧ some k_ ≠ (.slice Ao78 x265004_9.length co78 : Value).ownBlock) v290 y289) := ⟨h1_⟩
                              have n2_ : Aside0 (Kd.R (Kd.int .i64) 2 w86 w.heap.size (fun k_ => some k_ ≠ (v287 : Value).ownBlock ∧ some k_ ≠ (v290 : Value).ownBlock ∧ some k_ ≠ (u265001 : Value).ownBlock ∧ some k_ ≠ (u265002 : Value).ownBlock ∧ some k_ ≠ (u265003 : Value).ownBlock ∧ some k_ ≠ (.slice Ao78 x265004_9.length co78 : Value).ownBlock) v293 y292) := ⟨h2_⟩
                              have n3_ : Aside0 (Kd.R (Kd.int .i64) 2 w86 w.heap.size (fun k_ => some k_ ≠ (v287 : Value).ownBlock ∧ some k_ ≠ (v290 : Value).ownBlock ∧ some k_ ≠ (v293 : Value).ownBlock ∧ some k_ ≠ (u265002 : Value).ownBlock ∧ some k_ ≠ (u265003 : Value).ownBlock ∧ some k_ ≠ (.slice Ao78 x265004_9.length co78 : Value).ownBlock) u265001 x265001_9) := ⟨h3_⟩
                              have n4_ : Aside0 (Kd.R (Kd.int .i64) 2 w86 w.heap.size (fun k_ => some k_ ≠ (v287 : Value).ownBlock ∧ some k_ ≠ (v290 : Value).ownBlock ∧ some k_ ≠ (v293 : Value).ownBlock ∧ some k_ ≠ (u265001 : Value).ownBlock ∧ some k_ ≠ (u265003 : Value).ownBlock ∧ some k_ ≠ (.slice Ao78 x265004_9.length co78 : Value).ownBlock) u265002 x265002_61) := ⟨h4_⟩
                              have n5_ : Aside0 (Kd.R (Kd.int .i64) 2 w86 w.heap.size (fun k_ => some k_ ≠ (v287 : Value).ownBlock ∧ some k_ ≠ (v290 : Value).ownBlock ∧ some k_ ≠ (v293 : Value).ownBlock ∧ some k_ ≠ (u265001 : Value).ownBlock ∧ some k_ ≠ (u265002 : Value).ownBlock ∧ some k_ ≠ (.slice Ao78 x265004_9.length co78 : Value).ownBlock) u265003 x265003_9) := ⟨h5_⟩
                              have n6_ : Aside0 (Kd.R (Kd.int .i64) 2 w86 w.heap.size (fun k_ => some k_ ≠ (v287 : Value).ownBlock ∧ some k_ ≠ (v290 : Value).ownBlock ∧ some k_ ≠ (v293 : Value).ownBlock ∧ some k_ ≠ (u265001 : Value).ownBlock ∧ some k_ ≠ (u265002 : Value).ownBlock ∧ some k_ ≠ (u265003 : Value).ownBlock) (.slice Ao78 x265004_9.length co78) x265004_9) := ⟨h6_⟩
                              have n7_ : Aside0 (w86.heap[gb260]? = some (.cells #[.slice none 0 0, .slice none 0 0, .slice none 0 0, .slice none 0 0, .slice none 0 0] 60 (0, 0))) := ⟨h7_⟩
                              have n8_ : Aside0 (w86.heap[gb264]? = some (.cells #[.slice Ao77 x265000_9.length co77, u265001, u265002, u265003, .slice Ao78 x265004_9.length co78] 60 (0, 0))) := ⟨h8_⟩
                              have n9_ : Aside0 (Below w.heap.size w w86) := ⟨h9_⟩
                              clear HO_265000
                              clear HO_265001
                              clear HO_265002
                              clear HO_265003
                              clear HO_265004
                              clear BK260
                              clear BK264
                              clear HB
                              clear h0_ h1_ h2_ h3_ h4_ h5_ h6_ h7_ h8_ h9_
                              have HO288 := n0_
                              have HO291 := n1_
                              have HO294 := n2_
                              have HO_265001 := n3_
                              have HO_265002 := n4_
                              have HO_265003 := n5_
                              have HO_265004 := n6_
                              have BK260 := n7_
                              have BK264 := n8_
                              have HB := n9_
                              clear n0_ n1_ n2_ n3_ n4_ n5_ n6_ n7_ n8_ n9_
                              have hHeld : w86.cell? ⟨gb264, 0, none⟩ = some (.slice Ao77 x265000_9.length co77) ∧ w86.cell? ⟨gb264, 1, none⟩ = some (u265001) ∧ w86.cell? ⟨gb264, 2, none⟩ = some (u265002) ∧ w86.cell? ⟨gb264, 3, none⟩ = some (u265003) ∧ w86.cell? ⟨gb264, 4, none⟩ = some (.slice Ao78 x265004_9.length co78) := hS_
                              obtain ⟨Ao88, co88, eo88⟩ := Kd.R_slice HO294.out
                              (first | subst eo88 | (injection eo88 with f1_ f2_ f3_; have f4_ := f1_.symm; have f5_ := f3_.symm; clear f1_ f2_ f3_; subst f4_; subst f5_))
                              refine norm_ (a' := ?_) ?_ ?_
                              rotate_left
                              · simp only [putAll, Act.put, List.setIfInBounds_toArray, List.set_cons_zero, List.set_cons_succ]
                                rfl
                              refine one_ (i := 9) (N := some 88) #[true, true, true, true, true, true, true, true, true, true, true, false, false, false] rfl rfl (one_of HT_.out (by kernel_rfl)) (by decide) (fun K hK => ?_)
                              refine Kd.R_append_rows_step (Kd.int .i64) (w0 := w) w.heap.size (by rfl) (.tmp 85) (.tmp 87) 33 2 (.int .i64 0) 8 rfl Try.underlying33 info2 rfl (by decide) (by omega) (.slice Ao78 x265004_9.length co78) x265004_9 y292 _ _ _ (fun k_ => some k_ ≠ (u265001 : Value).ownBlock ∧ some k_ ≠ (u265002 : Value).ownBlock ∧ some k_ ≠ (u265003 : Value).ownBlock ∧ some k_ ≠ (v287 : Value).ownBlock ∧ some k_ ≠ (v290 : Value).ownBlock ∧ some k_ ≠ (.slice Ao88 y292.length co88 : Value).ownBlock) (fun _ => False) rfl rfl ?aO ?aR (fun _ _ h => h) (fun _ h => h.elim) ?aF ?aB ?aS ?aL ?_
                              (case aR => repeat (first | exact (Kd.R_reads' HO294.out).2.2 | (with_reducible refine Kd.C_alloc ?_ _) | (with_reducible refine Kd.C_drewN ?_ _) | (with_reducible refine Kd.C_drew ?_)))
                              (case aB => exact (by repeat (first | (with_reducible first | exact HB.out | apply below_alloc | apply pw_below_drewN | apply below_drew1 | refine below_set ?_ GE260.out | refine below_set ?_ GE264.out) | exact HB.out)))
                              (case aF => exact (fun k_ hk => ⟨Kd.fresh' (Kd.R_lt (by (with_reducible repeat (first | apply Kd.R_alloc | apply Kd.R_drewN | apply Kd.R_drew)); exact HO_265001.out)) k_ hk, Kd.fresh' (Kd.R_lt (by (with_reducible repeat (first | apply Kd.R_alloc | apply Kd.R_drewN | apply Kd.R_drew)); exact HO_265002.out)) k_ hk, Kd.fresh' (Kd.R_lt (by (with_reducible repeat (first | apply Kd.R_alloc | apply Kd.R_drewN | apply Kd.R_drew)); exact HO_265003.out)) k_ hk, Kd.fresh' (Kd.R_lt (by (with_reducible repeat (first | apply Kd.R_alloc | apply Kd.R_drewN | apply Kd.R_drew)); exact HO288.out)) k_ hk, Kd.fresh' (Kd.R_lt (by (with_reducible repeat (first | apply Kd.R_alloc | apply Kd.R_drewN | apply Kd.R_drew)); exact HO291.out)) k_ hk, Kd.fresh' (Kd.R_lt (by (with_reducible repeat (first | apply Kd.R_alloc | apply Kd.R_drewN | apply Kd.R_drew)); exact HO294.out)) k_ hk⟩))
                              (case aO => exact (by (with_reducible repeat (first | apply Kd.R_alloc | apply Kd.R_drewN | apply Kd.R_drew)); exact Kd.R_mono HO_265004.out (fun _ hk => ⟨hk.2.2.2.1, ⟨hk.2.2.2.2.1, ⟨hk.2.2.2.2.2, ⟨hk.1, ⟨hk.2.1, hk.2.2.1⟩⟩⟩⟩⟩)))
                              (case aS => exact (below_size (by repeat (first | (with_reducible first | exact HB.out | apply below_alloc | apply pw_below_drewN | apply below_drew1 | refine below_set ?_ GE260.out | refine below_set ?_ GE264.out) | exact HB.out))))
                              (case aL => have := LMc74.out; omega)
                              intro v296 w87 ho hb hg hat
                              rw [← Ny295.out] at ho
                              have n0_ := Aside0.mk (Kd.R_after (ok := (fun k_ => some k_ ≠ (u265002 : Value).ownBlock ∧ some k_ ≠ (u265003 : Value).ownBlock ∧ some k_ ≠ (v287 : Value).ownBlock ∧ some k_ ≠ (v290 : Value).ownBlock ∧ some k_ ≠ (.slice Ao88 y292.length co88 : Value).ownBlock)) (by (with_reducible repeat (first | apply Kd.R_alloc | apply Kd.R_drewN | apply Kd.R_drew)); exact Kd.R_mono HO_265001.out (fun _ hk => ⟨⟨hk.2.2.2.1, ⟨hk.2.2.2.2.1, ⟨hk.1, ⟨hk.2.1, hk.2.2.1⟩⟩⟩⟩, hk.2.2.2.2.2⟩)) hg hat)
                              have n1_ := Aside0.mk (Kd.R_after (ok := (fun k_ => some k_ ≠ (u265001 : Value).ownBlock ∧ some k_ ≠ (u265003 : Value).ownBlock ∧ some k_ ≠ (v287 : Value).ownBlock ∧ some k_ ≠ (v290 : Value).ownBlock ∧ some k_ ≠ (.slice Ao88 y292.length co88 : Value).ownBlock)) (by (with_reducible repeat (first | apply Kd.R_alloc | apply Kd.R_drewN | apply Kd.R_drew)); exact Kd.R_mono HO_265002.out (fun _ hk => ⟨⟨hk.2.2.2.1, ⟨hk.2.2.2.2.1, ⟨hk.1, ⟨hk.2.1, hk.2.2.1⟩⟩⟩⟩, hk.2.2.2.2.2⟩)) hg hat)
                              have n2_ := Aside0.mk (Kd.R_after (ok := (fun k_ => some k_ ≠ (u265001 : Value).ownBlock ∧ some k_ ≠ (u265002 : Value).ownBlock ∧ some k_ ≠ (v287 : Value).ownBlock ∧ some k_ ≠ (v290 : Value).ownBlock ∧ some k_ ≠ (.slice Ao88 y292.length co88 : Value).ownBlock)) (by (with_reducible repeat (first | apply Kd.R_alloc | apply Kd.R_drewN | apply Kd.R_drew)); exact Kd.R_mono HO_265003.out (fun _ hk => ⟨⟨hk.2.2.2.1, ⟨hk.2.2.2.2.1, ⟨hk.1, ⟨hk.2.1, hk.2.2.1⟩⟩⟩⟩, hk.2.2.2.2.2⟩)) hg hat)
                              have n3_ := Aside0.mk (blk_grown (g := gb260) (o := .cells #[.slice none 0 0, .slice none 0 0, .slice none 0 0, .slice none 0 0, .slice none 0 0] 60 (0, 0)) (by (with_reducible repeat (first | refine blk_drewN ?_ _ | refine blk_drew ?_ | refine blk_alloc ?_ _)); exact BK260.out) hg (Kd.R_ne HO_265004.out BK260.out (by decide)))
                              have n4_ := Aside0.mk (blk_grown (g := gb264) (o := .cells #[.slice Ao77 x265000_9.length co77, u265001, u265002, u265003, .slice Ao78 x265004_9.length co78] 60 (0, 0)) (by (with_reducible repeat (first | refine blk_drewN ?_ _ | refine blk_drew ?_ | refine blk_alloc ?_ _)); exact BK264.out) hg (Kd.R_ne HO_265004.out BK264.out (by decide)))
                              have n5_ := Aside0.mk (Kd.R_after (ok := (fun k_ => some k_ ≠ (u265001 : Value).ownBlock ∧ some k_ ≠ (u265002 : Value).ownBlock ∧ some k_ ≠ (u265003 : Value).ownBlock ∧ some k_ ≠ (v290 : Value).ownBlock ∧ some k_ ≠ (.slice Ao88 y292.length co88 : Value).ownBlock)) (by (with_reducible repeat (first | apply Kd.R_alloc | apply Kd.R_drewN | apply Kd.R_drew)); exact Kd.R_mono HO288.out (fun _ hk => ⟨⟨hk.2.2.1, ⟨hk.2.2.2.1, ⟨hk.2.2.2.2.1, ⟨hk.1, hk.2.1⟩⟩⟩⟩, hk.2.2.2.2.2⟩)) hg hat)
                              have n6_ := Aside0.mk (Kd.R_after (ok := (fun k_ => some k_ ≠ (u265001 : Value).ownBlock ∧ some k_ ≠ (u265002 : Value).ownBlock ∧ some k_ ≠ (u265003 : Value).ownBlock ∧ some k_ ≠ (v287 : Value).ownBlock ∧ some k_ ≠ (.slice Ao88 y292.length co88 : Value).ownBlock)) (by (with_reducible repeat (first | apply Kd.R_alloc | apply Kd.R_drewN | apply Kd.R_drew)); exact Kd.R_mono HO291.out (fun _ hk => ⟨⟨hk.2.2.1, ⟨hk.2.2.2.1, ⟨hk.2.2.2.2.1, ⟨hk.1, hk.2.1⟩⟩⟩⟩, hk.2.2.2.2.2⟩)) hg hat)
                              have n7_ := Aside0.mk (Kd.R_after (ok := (fun k_ => some k_ ≠ (u265001 : Value).ownBlock ∧ some k_ ≠ (u265002 : Value).ownBlock ∧ some k_ ≠ (u265003 : Value).ownBlock ∧ some k_ ≠ (v287 : Value).ownBlock ∧ some k_ ≠ (v290 : Value).ownBlock)) (by (with_reducible repeat (first | apply Kd.R_alloc | apply Kd.R_drewN | apply Kd.R_drew)); exact Kd.R_mono HO294.out (fun _ hk => ⟨⟨hk.2.2.1, ⟨hk.2.2.2.1, ⟨hk.2.2.2.2.1, ⟨hk.1, hk.2.1⟩⟩⟩⟩, hk.2.2.2.2.2⟩)) hg hat)
                              have n8_ := Aside0.mk (hb)
                              have n9_ := Aside0.mk (ho)
                              clear HO_265001
                              clear HO_265002
                              clear HO_265003
                              clear BK260
                              clear BK264
                              clear HO288
                              clear HO291
                              clear HO294
                              clear HB
                              clear HO_265004
                              have HO_265001 := n0_
                              have HO_265002 := n1_
                              have HO_265003 := n2_
                              have BK260 := n3_
                              have BK264 := n4_
                              have HO288 := n5_
                              have HO291 := n6_
                              have HO294 := n7_
                              have HB := n8_
                              have HO297 := n9_
                              clear n0_ n1_ n2_ n3_ n4_ n5_ n6_ n7_ n8_ n9_
                              clear ho hb hg hat
                              obtain ⟨Ao89, co89, eo89⟩ := Kd.R_slice HO291.out
                              (first | subst eo89 | (injection eo89 with f1_ f2_ f3_; have f4_ := f1_.symm; have f5_ := f3_.symm; clear f1_ f2_ f3_; subst f4_; subst f5_))
                              obtain ⟨Ao91, co91, eo91⟩ := Kd.R_slice HO297.out
                              (first | subst eo91 | (injection eo91 with f1_ f2_ f3_; have f4_ := f1_.symm; have f5_ := f3_.symm; clear f1_ f2_ f3_; subst f4_; subst f5_))
                              refine hK.out _ _ ⟨(blk_cell BK264.out 0).trans rfl, (blk_cell BK264.out 1).trans rfl, (blk_cell BK264.out 2).trans rfl, (blk_cell BK264.out 3).trans rfl, (blk_cell BK264.out 4).trans rfl⟩ (fun hHeld => ?_)
                              clear hK K
                              refine norm_ (a' := ?_) ?_ ?_
                              rotate_left
                              · show Act.put _ (some 88) _ = _
                                simp only [Act.put, List.setIfInBounds_toArray, List.set_cons_zero, List.set_cons_succ, i64_w, i32_w]
                                rfl
                              refine last_ (i := 11) (N := none) #[true, true, true, true, true, true, true, true, true, true, true, true, false, false] rfl rfl (one_of HT_.out (by kernel_rfl)) (by decide) (fun K hK => ?_)
                              have hs90 : w87.cell? ⟨gb264, 0, none⟩ = some (.slice Ao77 x265000_9.length co77) := (blk_cell BK264.out 0).trans rfl
                              have hfs90 := blk_frozen BK264.out 0
                              have hns90_0 := NB260_264.out
                              have hms90_0 := NB264_260.out
                              refine skip_ (w1 := ?_) (by rfl) rfl ?_ ?_
                              rotate_left
                              · go_simp
                                rfl
                              refine hK.out _ _ ?_
                              clear hK K
                              refine pure_ (i := 12) (N := some 90) (v := ?_) (a' := ?_) #[true, true, true, true, true, true, true, true, true, true, true, true, true, false] rfl rfl (any_of HT_.out (by kernel_rfl)) (fun _ _ _ h => h) (Or.inl ⟨by rfl, ?_⟩) ?_ ?_
                              rotate_left
                              · intro w'
                                go_simp
                                with_reducible rfl
                              rotate_left
                              · simp only [Act.put, List.setIfInBounds_toArray, List.set_cons_zero, List.set_cons_succ, i64_w, i32_w]
                                rfl
                              refine last_ (i := 13) (N := none) #[true, true, true, true, true, true, true, true, true, true, true, true, true, true] rfl rfl (one_of HT_.out (by kernel_rfl)) (by decide) (fun K hK => ?_)
                              have hs92 : w87.cell? ⟨gb264, 4, none⟩ = some (.slice Ao78 x265004_9.length co78) := (blk_cell BK264.out 4).trans rfl
                              have hfs92 := blk_frozen BK264.out 4
                              have hns92_0 := NB260_264.out
                              have hms92_0 := NB264_260.out
                              refine skip_ (w1 := ?_) (by rfl) rfl ?_ ?_
                              rotate_left
                              · go_simp
                                rfl
                              refine hK.out _ _ ?_
                              clear hK K
                              refine done_ (done_of HT_.out (by kernel_rfl)) ?_
                              try go_wp2
                              have n0_ : Aside0 (Kd.R (Kd.int .i64) 2 ((w87.setCell ⟨gb264, 0, none⟩ (.slice Ao89 y289.length co89)).setCell ⟨gb264, 4, none⟩ (.slice Ao91 y295.length co91)) w.heap.size (fun k_ => some k_ ≠ (u265002 : Value).ownBlock ∧ some k_ ≠ (u265003 : Value).ownBlock ∧ some k_ ≠ (v287 : Value).ownBlock ∧ some k_ ≠ (.slice Ao89 y289.length co89 : Value).ownBlock ∧ some k_ ≠ (.slice Ao88 y292.length co88 : Value).ownBlock ∧ some k_ ≠ (.slice Ao91 y295.length co91 : Value).ownBlock) u265001 x265001_9) := ⟨by (with_reducible repeat (first | apply Kd.R_alloc | apply Kd.R_drewN | apply Kd.R_drew)); exact Kd.R_mono (Kd.R_far (p := ⟨gb264, 4, none⟩) (Kd.R_far (p := ⟨gb264, 0, none⟩) (Kd.R_types HO_265001.out BK264.out (by decide)) (fun _ hk => hk.2) (.slice Ao89 y289.length co89)) (fun _ hk => hk.2) (.slice Ao91 y295.length co91)) (fun _ hk => ⟨hk.1.1.1, ⟨hk.1.1.2.1, ⟨hk.1.1.2.2.1, ⟨hk.1.1.2.2.2.1, ⟨hk.1.1.2.2.2.2, hk.1.2⟩⟩⟩⟩⟩)⟩
                              have n1_ : Aside0 (Kd.R (Kd.int .i64) 2 ((w87.setCell ⟨gb264, 0, none⟩ (.slice Ao89 y289.length co89)).setCell ⟨gb264, 4, none⟩ (.slice Ao91 y295.length co91)) w.heap.size (fun k_ => some k_ ≠ (u265001 : Value).ownBlock ∧ some k_ ≠ (u265003 : Value).ownBlock ∧ some k_ ≠ (v287 : Value).ownBlock ∧ some k_ ≠ (.slice Ao89 y289.length co89 : Value).ownBlock ∧ some k_ ≠ (.slice Ao88 y292.length co88 : Value).ownBlock ∧ some k_ ≠ (.slice Ao91 y295.length co91 : Value).ownBlock) u265002 x265002_61) := ⟨by (with_reducible repeat (first | apply Kd.R_alloc | apply Kd.R_drewN | apply Kd.R_drew)); exact Kd.R_mono (Kd.R_far (p := ⟨gb264, 4, none⟩) (Kd.R_far (p := ⟨gb264, 0, none⟩) (Kd.R_types HO_265002.out BK264.out (by decide)) (fun _ hk => hk.2) (.slice Ao89 y289.length co89)) (fun _ hk => hk.2) (.slice Ao91 y295.length co91)) (fun _ hk => ⟨hk.1.1.1, ⟨hk.1.1.2.1, ⟨hk.1.1.2.2.1, ⟨hk.1.1.2.2.2.1, ⟨hk.1.1.2.2.2.2, hk.1.2⟩⟩⟩⟩⟩)⟩
                              have n2_ : Aside0 (Kd.R (Kd.int .i64) 2 ((w87.setCell ⟨gb264, 0, none⟩ (.slice Ao89 y289.length co89)).setCell ⟨gb264, 4, none⟩ (.slice Ao91 y295.length co91)) w.heap.size (fun k_ => some k_ ≠ (u265001 : Value).ownBlock ∧ some k_ ≠ (u265002 : Value).ownBlock ∧ some k_ ≠ (v287 : Value).ownBlock ∧ some k_ ≠ (.slice Ao89 y289.length co89 : Value).ownBlock ∧ some k_ ≠ (.slice Ao88 y292.length co88 : Value).ownBlock ∧ some k_ ≠ (.slice Ao91 y295.length co91 : Value).ownBlock) u265003 x265003_9) := ⟨by (with_reducible repeat (first | apply Kd.R_alloc | apply Kd.R_drewN | apply Kd.R_drew)); exact Kd.R_mono (Kd.R_far (p := ⟨gb264, 4, none⟩) (Kd.R_far (p := ⟨gb264, 0, none⟩) (Kd.R_types HO_265003.out BK264.out (by decide)) (fun _ hk => hk.2) (.slice Ao89 y289.length co89)) (fun _ hk => hk.2) (.slice Ao91 y295.length co91)) (fun _ hk => ⟨hk.1.1.1, ⟨hk.1.1.2.1, ⟨hk.1.1.2.2.1, ⟨hk.1.1.2.2.2.1, ⟨hk.1.1.2.2.2.2, hk.1.2⟩⟩⟩⟩⟩)⟩
                              have n3_ : Aside0 (Kd.R (Kd.int .i64) 2 ((w87.setCell ⟨gb264, 0, none⟩ (.slice Ao89 y289.length co89)).setCell ⟨gb264, 4, none⟩ (.slice Ao91 y295.length co91)) w.heap.size (fun k_ => some k_ ≠ (u265001 : Value).ownBlock ∧ some k_ ≠ (u265002 : Value).ownBlock ∧ some k_ ≠ (u265003 : Value).ownBlock ∧ some k_ ≠ (.slice Ao89 y289.length co89 : Value).ownBlock ∧ some k_ ≠ (.slice Ao88 y292.length co88 : Value).ownBlock ∧ some k_ ≠ (.slice Ao91 y295.length co91 : Value).ownBlock) v287 y286) := ⟨by (with_reducible repeat (first | apply Kd.R_alloc | apply Kd.R_drewN | apply Kd.R_drew)); exact Kd.R_mono (Kd.R_far (p := ⟨gb264, 4, none⟩) (Kd.R_far (p := ⟨gb264, 0, none⟩) (Kd.R_types HO288.out BK264.out (by decide)) (fun _ hk => hk.2) (.slice Ao89 y289.length co89)) (fun _ hk => hk.2) (.slice Ao91 y295.length co91)) (fun _ hk => ⟨hk.1.1.1, ⟨hk.1.1.2.1, ⟨hk.1.1.2.2.1, ⟨hk.1.1.2.2.2.1, ⟨hk.1.1.2.2.2.2, hk.1.2⟩⟩⟩⟩⟩)⟩
                              have n4_ : Aside0 (Kd.R (Kd.int .i64) 2 ((w87.setCell ⟨gb264, 0, none⟩ (.slice Ao89 y289.length co89)).setCell ⟨gb264, 4, none⟩ (.slice Ao91 y295.length co91)) w.heap.size (fun k_ => some k_ ≠ (u265001 : Value).ownBlock ∧ some k_ ≠ (u265002 : Value).ownBlock ∧ some k_ ≠ (u265003 : Value).ownBlock ∧ some k_ ≠ (v287 : Value).ownBlock ∧ some k_ ≠ (.slice Ao88 y292.length co88 : Value).ownBlock ∧ some k_ ≠ (.slice Ao91 y295.length co91 : Value).ownBlock) (.slice Ao89 y289.length co89) y289) := ⟨by (with_reducible repeat (first | apply Kd.R_alloc | apply Kd.R_drewN | apply Kd.R_drew)); exact Kd.R_mono (Kd.R_far (p := ⟨gb264, 4, none⟩) (Kd.R_far (p := ⟨gb264, 0, none⟩) (Kd.R_types HO291.out BK264.out (by decide)) (fun _ hk => hk.2) (.slice Ao89 y289.length co89)) (fun _ hk => hk.2) (.slice Ao91 y295.length co91)) (fun _ hk => ⟨hk.1.1.1, ⟨hk.1.1.2.1, ⟨hk.1.1.2.2.1, ⟨hk.1.1.2.2.2.1, ⟨hk.1.1.2.2.2.2, hk.1.2⟩⟩⟩⟩⟩)⟩
                              have n5_ : Aside0 (Kd.R (Kd.int .i64) 2 ((w87.setCell ⟨gb264, 0, none⟩ (.slice Ao89 y289.length co89)).setCell ⟨gb264, 4, none⟩ (.slice Ao91 y295.length co91)) w.heap.size (fun k_ => some k_ ≠ (u265001 : Value).ownBlock ∧ some k_ ≠ (u265002 : Value).ownBlock ∧ some k_ ≠ (u265003 : Value).ownBlock ∧ some k_ ≠ (v287 : Value).ownBlock ∧ some k_ ≠ (.slice Ao89 y289.length co89 : Value).ownBlock ∧ some k_ ≠ (.slice Ao91 y295.length co91 : Value).ownBlock) (.slice Ao88 y292.length co88) y292) := ⟨by (with_reducible repeat (first | apply Kd.R_alloc | apply Kd.R_drewN | apply Kd.R_drew)); exact Kd.R_mono (Kd.R_far (p := ⟨gb264, 4, none⟩) (Kd.R_far (p := ⟨gb264, 0, none⟩) (Kd.R_types HO294.out BK264.out (by decide)) (fun _ hk => hk.2) (.slice Ao89 y289.length co89)) (fun _ hk => hk.2) (.slice Ao91 y295.length co91)) (fun _ hk => ⟨hk.1.1.1, ⟨hk.1.1.2.1, ⟨hk.1.1.2.2.1, ⟨hk.1.1.2.2.2.1, ⟨hk.1.1.2.2.2.2, hk.1.2⟩⟩⟩⟩⟩)⟩
                              have n6_ : Aside0 (Kd.R (Kd.int .i64) 2 ((w87.setCell ⟨gb264, 0, none⟩ (.slice Ao89 y289.length co89)).setCell ⟨gb264, 4, none⟩ (.slice Ao91 y295.length co91)) w.heap.size (fun k_ => some k_ ≠ (u265001 : Value).ownBlock ∧ some k_ ≠ (u265002 : Value).ownBlock ∧ some k_ ≠ (u265003 : Value).ownBlock ∧ some k_ ≠ (v287 : Value).ownBlock ∧ some k_ ≠ (.slice Ao89 y289.length co89 : Value).ownBlock ∧ some k_ ≠ (.slice Ao88 y292.length co88 : Value).ownBlock) (.slice Ao91 y295.length co91) y295) := ⟨by (with_reducible repeat (first | apply Kd.R_alloc | apply Kd.R_drewN | apply Kd.R_drew)); exact Kd.R_mono (Kd.R_far (p := ⟨gb264, 4, none⟩) (Kd.R_far (p := ⟨gb264, 0, none⟩) (Kd.R_types HO297.out BK264.out (by decide)) (fun _ hk => hk.2) (.slice Ao89 y289.length co89)) (fun _ hk => hk.2) (.slice Ao91 y295.length co91)) (fun _ hk => ⟨hk.1.1, ⟨hk.1.2.1, ⟨hk.1.2.2.1, ⟨hk.1.2.2.2.1, ⟨hk.1.2.2.2.2.1, hk.1.2.2.2.2.2⟩⟩⟩⟩⟩)⟩
                              have n7_ : Aside0 (((w87.setCell ⟨gb264, 0, none⟩ (.slice Ao89 y289.length co89)).setCell ⟨gb264, 4, none⟩ (.slice Ao91 y295.length co91)).heap[gb260]? = some (.cells #[.slice none 0 0, .slice none 0 0, .slice none 0 0, .slice none 0 0, .slice none 0 0] 60 (0, 0))) := ⟨by (with_reducible repeat (first | refine blk_drewN ?_ _ | refine blk_drew ?_ | refine blk_alloc ?_ _)); refine blk_far ?_ NB260_264.out _; (with_reducible repeat (first | refine blk_drewN ?_ _ | refine blk_drew ?_ | refine blk_alloc ?_ _)); refine blk_far ?_ NB260_264.out _; (with_reducible repeat (first | refine blk_drewN ?_ _ | refine blk_drew ?_ | refine blk_alloc ?_ _)); exact BK260.out⟩
                              have n8_ : Aside0 (((w87.setCell ⟨gb264, 0, none⟩ (.slice Ao89 y289.length co89)).setCell ⟨gb264, 4, none⟩ (.slice Ao91 y295.length co91)).heap[gb264]? = some (.cells #[.slice Ao89 y289.length co89, u265001, u265002, u265003, .slice Ao91 y295.length co91] 60 (0, 0))) := ⟨by (with_reducible repeat (first | refine blk_drewN ?_ _ | refine blk_drew ?_ | refine blk_alloc ?_ _)); refine blk_put (cs := #[.slice Ao89 y289.length co89, u265001, u265002, u265003, .slice Ao78 x265004_9.length co78]) ?_ 4 _ rfl; (with_reducible repeat (first | refine blk_drewN ?_ _ | refine blk_drew ?_ | refine blk_alloc ?_ _)); refine blk_put (cs := #[.slice Ao77 x265000_9.length co77, u265001, u265002, u265003, .slice Ao78 x265004_9.length co78]) ?_ 0 _ rfl; (with_reducible repeat (first | refine blk_drewN ?_ _ | refine blk_drew ?_ | refine blk_alloc ?_ _)); exact BK264.out⟩
                              have n9_ : Aside0 (Below w.heap.size w ((w87.setCell ⟨gb264, 0, none⟩ (.slice Ao89 y289.length co89)).setCell ⟨gb264, 4, none⟩ (.slice Ao91 y295.length co91))) := ⟨by repeat (first | (with_reducible first | exact HB.out | apply below_alloc | apply pw_below_drewN | apply below_drew1 | refine below_set ?_ GE260.out | refine below_set ?_ GE264.out) | exact HB.out)⟩
                              (try clear HO_265001)
                              (try clear HO_265002)
                              (try clear HO_265003)
                              (try clear HO288)
                              (try clear HO291)
                              (try clear HO294)
                              (try clear HO297)
                              (try clear BK260)
                              (try clear BK264)
                              (try clear HB)
                              generalize ((w87.setCell ⟨gb264, 0, none⟩ (.slice Ao89 y289.length co89)).setCell ⟨gb264, 4, none⟩ (.slice Ao91 y295.length co91)) = w93 at n0_ n1_ n2_ n3_ n4_ n5_ n6_ n7_ n8_ n9_ ⊢
                              have HO_265001 := n0_
                              have HO_265002 := n1_
                              have HO_265003 := n2_
                              have HO288 := n3_
                              have HO291 := n4_
                              have HO294 := n5_
                              have HO297 := n6_
                              have BK260 := n7_
                              have BK264 := n8_
                              have HB := n9_
                              clear n0_ n1_ n2_ n3_ n4_ n5_ n6_ n7_ n8_ n9_
                              have n0_ := Aside0.mk (Kd.R_drew HO_265001.out)
                              have n1_ := Aside0.mk (Kd.R_drew HO_265002.out)
                              have n2_ := Aside0.mk (Kd.R_drew HO_265003.out)
                              have n3_ := Aside0.mk (Kd.R_drew HO288.out)
                              have n4_ := Aside0.mk (Kd.R_drew HO291.out)
                              have n5_ := Aside0.mk (Kd.R_drew HO294.out)
                              have n6_ := Aside0.mk (Kd.R_drew HO297.out)
                              have n7_ := Aside0.mk (blk_drew BK260.out)
                              have n8_ := Aside0.mk (blk_drew BK264.out)
                              have n9_ := Aside0.mk (below_drew1 HB.out)
                              clear HO_265001
                              clear HO_265002
                              clear HO_265003
                              clear HO288
                              clear HO291
                              clear HO294
                              clear HO297
                              clear BK260
                              clear BK264
                              clear HB
                              have HO_265001 := n0_
                              have HO_265002 := n1_
                              have HO_265003 := n2_
                              have HO288 := n3_
                              have HO291 := n4_
                              have HO294 := n5_
                              have HO297 := n6_
                              have BK260 := n7_
                              have BK264 := n8_
                              have HB := n9_
                              clear n0_ n1_ n2_ n3_ n4_ n5_ n6_ n7_ n8_ n9_
                              obtain ⟨Ao95, co95, eo95⟩ := Kd.R_slice HO_265002.out
                              (first | subst eo95 | (injection eo95 with f1_ f2_ f3_; have f4_ := f1_.symm; have f5_ := f3_.symm; clear f1_ f2_ f3_; subst f4_; subst f5_))
                              refine start_ (n := 9) (S := fun w' => w'.cell? ⟨gb264, 0, none⟩ = some (.slice Ao89 y289.length co89) ∧ w'.cell? ⟨gb264, 1, none⟩ = some (u265001) ∧ w'.cell? ⟨gb264, 2, none⟩ = some (.slice Ao95 x265002_61.length co95) ∧ w'.cell? ⟨gb264, 3, none⟩ = some (u265003) ∧ w'.cell? ⟨gb264, 4, none⟩ = some (.slice Ao91 y295.length co91)) (ds := [8]) #[false, false, false, false, false, false, false, false, false] (by kernel_rfl) rfl rfl ⟨(blk_cell BK264.out 0).trans rfl, (blk_cell BK264.out 1).trans rfl, (blk_cell BK264.out 2).trans rfl, (blk_cell BK264.out 3).trans rfl, (blk_cell BK264.out 4).trans rfl⟩ (fun hHeld => ?_); refine with_tabW impl_match.tab22 impl_match.bits22 (fun HT_ HW_ => ?_)
                              generalize w93.drew = w94 at HO_265001 HO_265002 HO_265003 HO288 HO291 HO294 HO297 BK260 BK264 HB hHeld ⊢
                              refine pure_ (i := 0) (N := some 91) (v := ?_) (a' := ?_) #[true, false, false, false, false, false, false, false, false] rfl rfl (any_of HT_.out (by kernel_rfl)) (fun _ _ _ h => h) (Or.inl ⟨by rfl, ?_⟩) ?_ ?_
                              rotate_left
                              · intro w'
                                go_simp
                                with_reducible rfl
                              rotate_left
                              · simp only [Act.put, List.setIfInBounds_toArray, List.set_cons_zero, List.set_cons_succ, i64_w, i32_w]
                                rfl
                              refine pure_ (i := 2) (N := some 93) (v := ?_) (a' := ?_) #[true, false, true, false, false, false, false, false, false] rfl rfl (any_of HT_.out (by kernel_rfl)) (fun _ _ _ h => h) (Or.inl ⟨by rfl, ?_⟩) ?_ ?_
                              rotate_left
                              · intro w'
                                go_simp
                                with_reducible rfl
                              rotate_left
                              · simp only [Act.put, List.setIfInBounds_toArray, List.set_cons_zero, List.set_cons_succ, i64_w, i32_w]
                                rfl
                              refine take_ (i := 1) (N := some 92) (v := ?_) (a' := ?_) #[true, true, true, false, false, false, false, false, false] rfl rfl (take_ofW HT_.out HW_.out (by kernel_rfl)) (fun _ _ _ h => h) (Or.inl ⟨by rfl, ?_⟩) hHeld ?_ ?_
                              rotate_left
                              · rintro w' ⟨s0, s1, s2, s3, s4⟩
                                go_simp
                                with_reducible rfl
                              rotate_left
                              · simp only [Act.put, List.setIfInBounds_toArray, List.set_cons_zero, List.set_cons_succ, i64_w, i32_w]
                                rfl
                              refine take_ (i := 3) (N := some 94) (v := ?_) (a' := ?_) #[true, true, true, true, false, false, false, false, false] rfl rfl (take_ofW HT_.out HW_.out (by kernel_rfl)) (fun _ _ _ h => h) (Or.inl ⟨by rfl, ?_⟩) hHeld ?_ ?_
                              rotate_left
                              · rintro w' ⟨s0, s1, s2, s3, s4⟩
                                go_simp
                                with_reducible rfl
                              rotate_left
                              · simp only [Act.put, List.setIfInBounds_toArray, List.set_cons_zero, List.set_cons_succ, i64_w, i32_w]
                                rfl
                              refine one_ (i := 4) (N := some 95) #[true, true, true, true, true, false, false, false, false] rfl rfl (one_of HT_.out (by kernel_rfl)) (by decide) (fun K hK => ?_)
                              refine goes_ Try.func41 (by kernel_rfl) rfl #[.slice Ao95 x265002_61.length co95] (by rfl) rfl rfl (by (try simp only [List.map_toArray, List.map_cons, List.map_nil]); first | done | rfl | (simp only [List.length_drop, List.length_take]; rfl)) ?_
                              with_reducible refine (impl_size_int64.calls _ _ x265002_61 t298 _ ?side1 ?side2 A75.out).mono ?_
                              (case side1 => repeat (first | exact (Kd.R_reads' HO_265002.out).2.2 | (with_reducible refine Kd.C_alloc ?_ _) | (with_reducible refine Kd.C_drewN ?_ _) | (with_reducible refine Kd.C_drew ?_)))
                              (case side2 => exact (Kd.R_reads' HO_265002.out).2.1)
                              rintro e w' ⟨rfl, ⟨nd, rfl⟩⟩
                              refine ⟨_, rfl, ?_⟩
                              refine hK.out _ _ ⟨(blk_cell BK264.out 0).trans rfl, (blk_cell BK264.out 1).trans rfl, (blk_cell BK264.out 2).trans rfl, (blk_cell BK264.out 3).trans rfl, (blk_cell BK264.out 4).trans rfl⟩ (fun hHeld => ?_)
                              clear hK K
                              refine norm_ (a' := ?_) ?_ ?_
                              rotate_left
                              · show Act.put _ (some 95) _ = _
                                simp only [Act.put, List.setIfInBounds_toArray, List.set_cons_zero, List.set_cons_succ, i64_w, i32_w]
                                rfl
                              refine one_ (i := 5) (N := some 96) #[true, true, true, true, true, true, false, false, false] rfl rfl (one_of HT_.out (by kernel_rfl)) (by decide) (fun K hK => ?_)
                              refine Kd.R_lit_step (Kd.int .i64) _ 2 ?hg (N := 96) ?hd (xs := ([t298] : List Int)) (inner := [.int .i64 t298]) (ok := fun _ => True) (okp := fun _ => True) ?hr ?hp (fun _ hk => hk) trivial (Below.refl _ _) (Nat.le_refl _) (by simp) ?_; (case hd => rfl); (case hg => rfl); (case hr => first | (go_simp; done) | (go_simp; rfl)); (case hp => exact (Reps.one (show Kd.M (Kd.int .i64) _ _ _ t298 [.int .i64 t298] from rfl) (Reps.none _ _)))
                              intro v300 w96 ho97 hb hg_ hnew_
                              clear hg_ hnew_
                              (first | rw [← Ny299.out] at ho97 | (simp only [Int.reduceToNat] at ho97; rw [← Ny299.out] at ho97))
                              have n0_ := Aside0.mk (Kd.R_elder' (by (with_reducible repeat (first | apply Kd.R_alloc | apply Kd.R_drewN | apply Kd.R_drew)); exact HO_265001.out) (Kd.R_base ho97) hb)
                              have n1_ := Aside0.mk (Kd.R_elder' (by (with_reducible repeat (first | apply Kd.R_alloc | apply Kd.R_drewN | apply Kd.R_drew)); exact HO_265002.out) (Kd.R_base ho97) hb)
                              have n2_ := Aside0.mk (Kd.R_elder' (by (with_reducible repeat (first | apply Kd.R_alloc | apply Kd.R_drewN | apply Kd.R_drew)); exact HO_265003.out) (Kd.R_base ho97) hb)
                              have n3_ := Aside0.mk (Kd.R_elder' (by (with_reducible repeat (first | apply Kd.R_alloc | apply Kd.R_drewN | apply Kd.R_drew)); exact HO288.out) (Kd.R_base ho97) hb)
                              have n4_ := Aside0.mk (Kd.R_elder' (by (with_reducible repeat (first | apply Kd.R_alloc | apply Kd.R_drewN | apply Kd.R_drew)); exact HO291.out) (Kd.R_base ho97) hb)
                              have n5_ := Aside0.mk (Kd.R_elder' (by (with_reducible repeat (first | apply Kd.R_alloc | apply Kd.R_drewN | apply Kd.R_drew)); exact HO294.out) (Kd.R_base ho97) hb)
                              have n6_ := Aside0.mk (Kd.R_elder' (by (with_reducible repeat (first | apply Kd.R_alloc | apply Kd.R_drewN | apply Kd.R_drew)); exact HO297.out) (Kd.R_base ho97) hb)
                              have n7_ := Aside0.mk (Kd.R_lower (Kd.R_new' (Kd.R_new' (Kd.R_new' (Kd.R_new' (Kd.R_new' (Kd.R_new' (Kd.R_new' ho97 (Kd.R_lt (by (with_reducible repeat (first | apply Kd.R_alloc | apply Kd.R_drewN | apply Kd.R_drew)); exact HO_265001.out))) (Kd.R_lt (by (with_reducible repeat (first | apply Kd.R_alloc | apply Kd.R_drewN | apply Kd.R_drew)); exact HO_265002.out))) (Kd.R_lt (by (with_reducible repeat (first | apply Kd.R_alloc | apply Kd.R_drewN | apply Kd.R_drew)); exact HO_265003.out))) (Kd.R_lt (by (with_reducible repeat (first | apply Kd.R_alloc | apply Kd.R_drewN | apply Kd.R_drew)); exact HO288.out))) (Kd.R_lt (by (with_reducible repeat (first | apply Kd.R_alloc | apply Kd.R_drewN | apply Kd.R_drew)); exact HO291.out))) (Kd.R_lt (by (with_reducible repeat (first | apply Kd.R_alloc | apply Kd.R_drewN | apply Kd.R_drew)); exact HO294.out))) (Kd.R_lt (by (with_reducible repeat (first | apply Kd.R_alloc | apply Kd.R_drewN | apply Kd.R_drew)); exact HO297.out))) (below_size (by repeat (first | (with_reducible first | exact HB.out | apply below_alloc | apply pw_below_drewN | apply below_drew1 | refine below_set ?_ GE260.out | refine below_set ?_ GE264.out) | exact HB.out))))
                              have n8_ := Aside0.mk (blk_below (g := gb260) (o := .cells #[.slice none 0 0, .slice none 0 0, .slice none 0 0, .slice none 0 0, .slice none 0 0] 60 (0, 0)) (by (with_reducible repeat (first | refine blk_drewN ?_ _ | refine blk_drew ?_ | refine blk_alloc ?_ _)); exact BK260.out) hb)
                              have n9_ := Aside0.mk (blk_below (g := gb264) (o := .cells #[.slice Ao89 y289.length co89, u265001, .slice Ao95 x265002_61.length co95, u265003, .slice Ao91 y295.length co91] 60 (0, 0)) (by (with_reducible repeat (first | refine blk_drewN ?_ _ | refine blk_drew ?_ | refine blk_alloc ?_ _)); exact BK264.out) hb)
                              have n10_ := Aside0.mk (below_step (by repeat (first | (with_reducible first | exact HB.out | apply below_alloc | apply pw_below_drewN | apply below_drew1 | refine below_set ?_ GE260.out | refine below_set ?_ GE264.out) | exact HB.out)) hb)
                              clear HO_265001
                              clear HO_265002
                              clear HO_265003
                              clear HO288
                              clear HO291
                              clear HO294
                              clear HO297
                              clear BK260
                              clear BK264
                              clear HB
                              have HO_265001 := n0_
                              have HO_265002 := n1_
                              have HO_265003 := n2_
                              have HO288 := n3_
                              have HO291 := n4_
                              have HO294 := n5_
                              have HO297 := n6_
                              have HO301 := n7_
                              have BK260 := n8_
                              have BK264 := n9_
                              have HB := n10_
                              clear n0_ n1_ n2_ n3_ n4_ n5_ n6_ n7_ n8_ n9_ n10_
                              clear hb ho97
                              obtain ⟨Ao99, co99, eo99⟩ := Kd.R_slice HO301.out
                              (first | subst eo99 | (injection eo99 with f1_ f2_ f3_; have f4_ := f1_.symm; have f5_ := f3_.symm; clear f1_ f2_ f3_; subst f4_; subst f5_))
                              refine hK.out _ _ ⟨(blk_cell BK264.out 0).trans rfl, (blk_cell BK264.out 1).trans rfl, (blk_cell BK264.out 2).trans rfl, (blk_cell BK264.out 3).trans rfl, (blk_cell BK264.out 4).trans rfl⟩ (fun hHeld => ?_)
                              clear hK K
                              refine norm_ (a' := ?_) ?_ ?_
                              rotate_left
                              · show Act.put _ (some 96) _ = _
                                simp only [Act.put, List.setIfInBounds_toArray, List.set_cons_zero, List.set_cons_succ, i64_w, i32_w]
                                rfl
                              refine one_ (i := 6) (N := some 97) #[true, true, true, true, true, true, true, false, false] rfl rfl (one_of HT_.out (by kernel_rfl)) (by decide) (fun K hK => ?_)
                              refine Kd.R_append_rows_step (Kd.int .i64) (w0 := w) w.heap.size (by rfl) (.tmp 92) (.tmp 96) 33 2 (.int .i64 0) 8 rfl Try.underlying33 info2 rfl (by decide) (by omega) u265003 x265003_9 y299 _ _ _ (fun k_ => some k_ ≠ (u265001 : Value).ownBlock ∧ some k_ ≠ (.slice Ao95 x265002_61.length co95 : Value).ownBlock ∧ some k_ ≠ (v287 : Value).ownBlock ∧ some k_ ≠ (.slice Ao89 y289.length co89 : Value).ownBlock ∧ some k_ ≠ (.slice Ao88 y292.length co88 : Value).ownBlock ∧ some k_ ≠ (.slice Ao91 y295.length co91 : Value).ownBlock ∧ some k_ ≠ (.slice Ao99 y299.length co99 : Value).ownBlock) (fun _ => False) rfl rfl ?aO ?aR (fun _ _ h => h) (fun _ h => h.elim) ?aF ?aB ?aS ?aL ?_
                              (case aR => repeat (first | exact (Kd.R_reads' HO301.out).2.2 | (with_reducible refine Kd.C_alloc ?_ _) | (with_reducible refine Kd.C_drewN ?_ _) | (with_reducible refine Kd.C_drew ?_)))
                              (case aB => exact (by repeat (first | (with_reducible first | exact HB.out | apply below_alloc | apply pw_below_drewN | apply below_drew1 | refine below_set ?_ GE260.out | refine below_set ?_ GE264.out) | exact HB.out)))
                              (case aF => exact (fun k_ hk => ⟨Kd.fresh' (Kd.R_lt (by (with_reducible repeat (first | apply Kd.R_alloc | apply Kd.R_drewN | apply Kd.R_drew)); exact HO_265001.out)) k_ hk, Kd.fresh' (Kd.R_lt (by (with_reducible repeat (first | apply Kd.R_alloc | apply Kd.R_drewN | apply Kd.R_drew)); exact HO_265002.out)) k_ hk, Kd.fresh' (Kd.R_lt (by (with_reducible repeat (first | apply Kd.R_alloc | apply Kd.R_drewN | apply Kd.R_drew)); exact HO288.out)) k_ hk, Kd.fresh' (Kd.R_lt (by (with_reducible repeat (first | apply Kd.R_alloc | apply Kd.R_drewN | apply Kd.R_drew)); exact HO291.out)) k_ hk, Kd.fresh' (Kd.R_lt (by (with_reducible repeat (first | apply Kd.R_alloc | apply Kd.R_drewN | apply Kd.R_drew)); exact HO294.out)) k_ hk, Kd.fresh' (Kd.R_lt (by (with_reducible repeat (first | apply Kd.R_alloc | apply Kd.R_drewN | apply Kd.R_drew)); exact HO297.out)) k_ hk, Kd.fresh' (Kd.R_lt (by (with_reducible repeat (first | apply Kd.R_alloc | apply Kd.R_drewN | apply Kd.R_drew)); exact HO301.out)) k_ hk⟩))
                              (case aO => exact (by (with_reducible repeat (first | apply Kd.R_alloc | apply Kd.R_drewN | apply Kd.R_drew)); exact Kd.R_mono HO_265003.out (fun _ hk => ⟨hk.1.1, ⟨hk.1.2.1, ⟨hk.1.2.2.1, ⟨hk.1.2.2.2.1, ⟨hk.1.2.2.2.2.1, ⟨hk.1.2.2.2.2.2, hk.2⟩⟩⟩⟩⟩⟩)))
                              (case aS => exact (below_size (by repeat (first | (with_reducible first | exact HB.out | apply below_alloc | apply pw_below_drewN | apply below_drew1 | refine below_set ?_ GE260.out | refine below_set ?_ GE264.out) | exact HB.out))))
                              (case aL => have := LMc76.out; omega)
                              intro v303 w98 ho hb hg hat
                              rw [← Ny302.out] at ho
                              have n0_ := Aside0.mk (Kd.R_after (ok := (fun k_ => some k_ ≠ (.slice Ao95 x265002_61.length co95 : Value).ownBlock ∧ some k_ ≠ (v287 : Value).ownBlock ∧ some k_ ≠ (.slice Ao89 y289.length co89 : Value).ownBlock ∧ some k_ ≠ (.slice Ao88 y292.length co88 : Value).ownBlock ∧ some k_ ≠ (.slice Ao91 y295.length co91 : Value).ownBlock ∧ some k_ ≠ (.slice Ao99 y299.length co99 : Value).ownBlock)) (by (with_reducible repeat (first | apply Kd.R_alloc | apply Kd.R_drewN | apply Kd.R_drew)); exact Kd.R_mono HO_265001.out (fun _ hk => ⟨⟨hk.1.1, ⟨hk.1.2.2.1, ⟨hk.1.2.2.2.1, ⟨hk.1.2.2.2.2.1, ⟨hk.1.2.2.2.2.2, hk.2⟩⟩⟩⟩⟩, hk.1.2.1⟩)) hg hat)
                              have n1_ := Aside0.mk (Kd.R_after (ok := (fun k_ => some k_ ≠ (u265001 : Value).ownBlock ∧ some k_ ≠ (v287 : Value).ownBlock ∧ some k_ ≠ (.slice Ao89 y289.length co89 : Value).ownBlock ∧ some k_ ≠ (.slice Ao88 y292.length co88 : Value).ownBlock ∧ some k_ ≠ (.slice Ao91 y295.length co91 : Value).ownBlock ∧ some k_ ≠ (.slice Ao99 y299.length co99 : Value).ownBlock)) (by (with_reducible repeat (first | apply Kd.R_alloc | apply Kd.R_drewN | apply Kd.R_drew)); exact Kd.R_mono HO_265002.out (fun _ hk => ⟨⟨hk.1.1, ⟨hk.1.2.2.1, ⟨hk.1.2.2.2.1, ⟨hk.1.2.2.2.2.1, ⟨hk.1.2.2.2.2.2, hk.2⟩⟩⟩⟩⟩, hk.1.2.1⟩)) hg hat)
                              have n2_ := Aside0.mk (blk_grown (g := gb260) (o := .cells #[.slice none 0 0, .slice none 0 0, .slice none 0 0, .slice none 0 0, .slice none 0 0] 60 (0, 0)) (by (with_reducible repeat (first | refine blk_drewN ?_ _ | refine blk_drew ?_ | refine blk_alloc ?_ _)); exact BK260.out) hg (Kd.R_ne HO_265003.out BK260.out (by decide)))
                              have n3_ := Aside0.mk (blk_grown (g := gb264) (o := .cells #[.slice Ao89 y289.length co89, u265001, .slice Ao95 x265002_61.length co95, u265003, .slice Ao91 y295.length co91] 60 (0, 0)) (by (with_reducible repeat (first | refine blk_drewN ?_ _ | refine blk_drew ?_ | refine blk_alloc ?_ _)); exact BK264.out) hg (Kd.R_ne HO_265003.out BK264.out (by decide)))
                              have n4_ := Aside0.mk (Kd.R_after (ok := (fun k_ => some k_ ≠ (u265001 : Value).ownBlock ∧ some k_ ≠ (.slice Ao95 x265002_61.length co95 : Value).ownBlock ∧ some k_ ≠ (.slice Ao89 y289.length co89 : Value).ownBlock ∧ some k_ ≠ (.slice Ao88 y292.length co88 : Value).ownBlock ∧ some k_ ≠ (.slice Ao91 y295.length co91 : Value).ownBlock ∧ some k_ ≠ (.slice Ao99 y299.length co99 : Value).ownBlock)) (by (with_reducible repeat (first | apply Kd.R_alloc | apply Kd.R_drewN | apply Kd.R_drew)); exact Kd.R_mono HO288.out (fun _ hk => ⟨⟨hk.1.1, ⟨hk.1.2.1, ⟨hk.1.2.2.2.1, ⟨hk.1.2.2.2.2.1, ⟨hk.1.2.2.2.2.2, hk.2⟩⟩⟩⟩⟩, hk.1.2.2.1⟩)) hg hat)
                              have n5_ := Aside0.mk (Kd.R_after (ok := (fun k_ => some k_ ≠ (u265001 : Value).ownBlock ∧ some k_ ≠ (.slice Ao95 x265002_61.length co95 : Value).ownBlock ∧ some k_ ≠ (v287 : Value).ownBlock ∧ some k_ ≠ (.slice Ao88 y292.length co88 : Value).ownBlock ∧ some k_ ≠ (.slice Ao91 y295.length co91 : Value).ownBlock ∧ some k_ ≠ (.slice Ao99 y299.length co99 : Value).ownBlock)) (by (with_reducible repeat (first | apply Kd.R_alloc | apply Kd.R_drewN | apply Kd.R_drew)); exact Kd.R_mono HO291.out (fun _ hk => ⟨⟨hk.1.1, ⟨hk.1.2.1, ⟨hk.1.2.2.2.1, ⟨hk.1.2.2.2.2.1, ⟨hk.1.2.2.2.2.2, hk.2⟩⟩⟩⟩⟩, hk.1.2.2.1⟩)) hg hat)
                              have n6_ := Aside0.mk (Kd.R_after (ok := (fun k_ => some k_ ≠ (u265001 : Value).ownBlock ∧ some k_ ≠ (.slice Ao95 x265002_61.length co95 : Value).ownBlock ∧ some k_ ≠ (v287 : Value).ownBlock ∧ some k_ ≠ (.slice Ao89 y289.length co89 : Value).ownBlock ∧ some k_ ≠ (.slice Ao91 y295.length co91 : Value).ownBlock ∧ some k_ ≠ (.slice Ao99 y299.length co99 : Value).ownBlock)) (by (with_reducible repeat (first | apply Kd.R_alloc | apply Kd.R_drewN | apply Kd.R_drew)); exact Kd.R_mono HO294.out (fun _ hk => ⟨⟨hk.1.1, ⟨hk.1.2.1, ⟨hk.1.2.2.2.1, ⟨hk.1.2.2.2.2.1, ⟨hk.1.2.2.2.2.2, hk.2⟩⟩⟩⟩⟩, hk.1.2.2.1⟩)) hg hat)
                              have n7_ := Aside0.mk (Kd.R_after (ok := (fun k_ => some k_ ≠ (u265001 : Value).ownBlock ∧ some k_ ≠ (.slice Ao95 x265002_61.length co95 : Value).ownBlock ∧ some k_ ≠ (v287 : Value).ownBlock ∧ some k_ ≠ (.slice Ao89 y289.length co89 : Value).ownBlock ∧ some k_ ≠ (.slice Ao88 y292.length co88 : Value).ownBlock ∧ some k_ ≠ (.slice Ao99 y299.length co99 : Value).ownBlock)) (by (with_reducible repeat (first | apply Kd.R_alloc | apply Kd.R_drewN | apply Kd.R_drew)); exact Kd.R_mono HO297.out (fun _ hk => ⟨⟨hk.1.1, ⟨hk.1.2.1, ⟨hk.1.2.2.2.1, ⟨hk.1.2.2.2.2.1, ⟨hk.1.2.2.2.2.2, hk.2⟩⟩⟩⟩⟩, hk.1.2.2.1⟩)) hg hat)
                              have n8_ := Aside0.mk (Kd.R_after (ok := (fun k_ => some k_ ≠ (u265001 : Value).ownBlock ∧ some k_ ≠ (.slice Ao95 x265002_61.length co95 : Value).ownBlock ∧ some k_ ≠ (v287 : Value).ownBlock ∧ some k_ ≠ (.slice Ao89 y289.length co89 : Value).ownBlock ∧ some k_ ≠ (.slice Ao88 y292.length co88 : Value).ownBlock ∧ some k_ ≠ (.slice Ao91 y295.length co91 : Value).ownBlock)) (by (with_reducible repeat (first | apply Kd.R_alloc | apply Kd.R_drewN | apply Kd.R_drew)); exact Kd.R_mono HO301.out (fun _ hk => ⟨⟨hk.1.1.1.1.1.1.2, ⟨hk.1.1.1.1.1.2, ⟨hk.1.1.1.2, ⟨hk.1.1.2, ⟨hk.1.2, hk.2⟩⟩⟩⟩⟩, hk.1.1.1.1.2⟩)) hg hat)
                              have n9_ := Aside0.mk (hb)
                              have n10_ := Aside0.mk (ho)
                              clear HO_265001
                              clear HO_265002
                              clear BK260
                              clear BK264
                              clear HO288
                              clear HO291
                              clear HO294
                              clear HO297
                              clear HO301
                              clear HB
                              clear HO_265003
                              have HO_265001 := n0_
                              have HO_265002 := n1_
                              have BK260 := n2_
                              have BK264 := n3_
                              have HO288 := n4_
                              have HO291 := n5_
                              have HO294 := n6_
                              have HO297 := n7_
                              have HO301 := n8_
                              have HB := n9_
                              have HO304 := n10_
                              clear n0_ n1_ n2_ n3_ n4_ n5_ n6_ n7_ n8_ n9_ n10_
                              clear ho hb hg hat
                              obtain ⟨Ao100, co100, eo100⟩ := Kd.R_slice HO304.out
                              (first | subst eo100 | (injection eo100 with f1_ f2_ f3_; have f4_ := f1_.symm; have f5_ := f3_.symm; clear f1_ f2_ f3_; subst f4_; subst f5_))
                              refine hK.out _ _ ⟨(blk_cell BK264.out 0).trans rfl, (blk_cell BK264.out 1).trans rfl, (blk_cell BK264.out 2).trans rfl, (blk_cell BK264.out 3).trans rfl, (blk_cell BK264.out 4).trans rfl⟩ (fun hHeld => ?_)
                              clear hK K
                              refine norm_ (a' := ?_) ?_ ?_
                              rotate_left
                              · show Act.put _ (some 97) _ = _
                                simp only [Act.put, List.setIfInBounds_toArray, List.set_cons_zero, List.set_cons_succ, i64_w, i32_w]
                                rfl
                              refine pure_ (i := 7) (N := some 98) (v := ?_) (a' := ?_) #[true, true, true, true, true, true, true, true, false] rfl rfl (any_of HT_.out (by kernel_rfl)) (fun _ _ _ h => h) (Or.inl ⟨by rfl, ?_⟩) ?_ ?_
                              rotate_left
                              · intro w'
                                go_simp
                                with_reducible rfl
                              rotate_left
                              · simp only [Act.put, List.setIfInBounds_toArray, List.set_cons_zero, List.set_cons_succ, i64_w, i32_w]
                                rfl
                              refine last_ (i := 8) (N := none) #[true, true, true, true, true, true, true, true, true] rfl rfl (one_of HT_.out (by kernel_rfl)) (by decide) (fun K hK => ?_)
                              have hs101 : w98.cell? ⟨gb264, 3, none⟩ = some (u265003) := (blk_cell BK264.out 3).trans rfl
                              have hfs101 := blk_frozen BK264.out 3
                              have hns101_0 := NB260_264.out
                              have hms101_0 := NB264_260.out
                              refine skip_ (w1 := ?_) (by rfl) rfl ?_ ?_
                              rotate_left
                              · go_simp
                                rfl
                              refine hK.out _ _ ?_
                              clear hK K
                              refine done_ (done_of HT_.out (by kernel_rfl)) ?_
                              try go_wp2
                              go_roundg kj61
                              case measure => have := HK1.out; have := HJ9.out; have := HJ47.out; have := HJ61.out; omega
                              case rel => exact ⟨(wrap64 (x14_1 + 1)), (y289), (x265001_9), (x265002_61), (y302), (y295), (.slice Ao89 y289.length co89), (u265001), (.slice Ao95 x265002_61.length co95), (.slice Ao100 y302.length co100), (.slice Ao91 y295.length co91), (by first | rfl | (simp; done) | (simp [*]; done)), H', ⟨by have := HK1.out; have := HJ9.out; have := HJ47.out; have := HJ61.out; omega⟩, ⟨by (with_reducible repeat (first | apply Kd.R_alloc | apply Kd.R_drewN | apply Kd.R_drew)); exact Kd.R_mono (Kd.R_far (p := ⟨gb264, 3, none⟩) (Kd.R_types HO291.out BK264.out (by decide)) (fun _ hk => hk.2) (.slice Ao100 y302.length co100)) (fun _ hk => ⟨hk.1.1.1, ⟨hk.1.1.2.1, ⟨hk.1.2, hk.1.1.2.2.2.2.1⟩⟩⟩)⟩, ⟨by (with_reducible repeat (first | apply Kd.R_alloc | apply Kd.R_drewN | apply Kd.R_drew)); exact Kd.R_mono (Kd.R_far (p := ⟨gb264, 3, none⟩) (Kd.R_types HO_265001.out BK264.out (by decide)) (fun _ hk => hk.2) (.slice Ao100 y302.length co100)) (fun _ hk => ⟨hk.1.1.2.2.1, ⟨hk.1.1.1, ⟨hk.1.2, hk.1.1.2.2.2.2.1⟩⟩⟩)⟩, ⟨by (with_reducible repeat (first | apply Kd.R_alloc | apply Kd.R_drewN | apply Kd.R_drew)); exact Kd.R_mono (Kd.R_far (p := ⟨gb264, 3, none⟩) (Kd.R_types HO_265002.out BK264.out (by decide)) (fun _ hk => hk.2) (.slice Ao100 y302.length co100)) (fun _ hk => ⟨hk.1.1.2.2.1, ⟨hk.1.1.1, ⟨hk.1.2, hk.1.1.2.2.2.2.1⟩⟩⟩)⟩, ⟨by (with_reducible repeat (first | apply Kd.R_alloc | apply Kd.R_drewN | apply Kd.R_drew)); exact Kd.R_mono (Kd.R_far (p := ⟨gb264, 3, none⟩) (Kd.R_types HO304.out BK264.out (by decide)) (fun _ hk => hk.2) (.slice Ao100 y302.length co100)) (fun _ hk => ⟨hk.1.2.2.2.1, ⟨hk.1.1, ⟨hk.1.2.1, hk.1.2.2.2.2.2.1⟩⟩⟩)⟩, ⟨by (with_reducible repeat (first | apply Kd.R_alloc | apply Kd.R_drewN | apply Kd.R_drew)); exact Kd.R_mono (Kd.R_far (p := ⟨gb264, 3, none⟩) (Kd.R_types HO297.out BK264.out (by decide)) (fun _ hk => hk.2) (.slice Ao100 y302.length co100)) (fun _ hk => ⟨hk.1.1.2.2.2.1, ⟨hk.1.1.1, ⟨hk.1.1.2.1, hk.1.2⟩⟩⟩)⟩, ⟨by (with_reducible repeat (first | refine blk_drewN ?_ _ | refine blk_drew ?_ | refine blk_alloc ?_ _)); refine blk_far ?_ NB260_264.out _; (with_reducible repeat (first | refine blk_drewN ?_ _ | refine blk_drew ?_ | refine blk_alloc ?_ _)); exact BK260.out⟩, ⟨by (with_reducible repeat (first | refine blk_drewN ?_ _ | refine blk_drew ?_ | refine blk_alloc ?_ _)); refine blk_put (cs := #[.slice Ao89 y289.length co89, u265001, .slice Ao95 x265002_61.length co95, u265003, .slice Ao91 y295.length co91]) ?_ 3 _ rfl; (with_reducible repeat (first | refine blk_drewN ?_ _ | refine blk_drew ?_ | refine blk_alloc ?_ _)); exact BK264.out⟩, ⟨by repeat (first | (with_reducible first | exact HB.out | apply below_alloc | apply pw_below_drewN | apply below_drew1 | refine below_set ?_ GE260.out | refine below_set ?_ GE264.out) | exact HB.out)⟩⟩
                            · rw [if_neg c76] at H
                              exact absurd H (by simp)
                          · rw [if_neg c74] at H
                            exact absurd H (by simp)
                        · rw [if_neg c73] at H
                          exact absurd H (by simp)
                  · rw [if_neg c59] at H
                    exact absurd H (by simp)
                · rw [if_neg c58] at H
                  exact absurd H (by simp)
      · rw [if_neg c9] at H
        have c9b0 : decide (x14_1 < (a0.size : Int)) = false := decide_eq_false c9
        clear c9
        simp only [Option.some.injEq, Prod.mk.injEq] at H
        obtain ⟨rfl, rfl, rfl, rfl, rfl⟩ := H
        have hnb102 := NB264_260.out
        have hnc102 := NB260_264.out
        have hcz103_0 : wr.cell? ⟨gb264, 0, none⟩ = some (u265000) := (blk_cell BK264.out 0).trans rfl
        have hcz103_1 : wr.cell? ⟨gb264, 1, none⟩ = some (u265001) := (blk_cell BK264.out 1).trans rfl
        have hcz103_2 : wr.cell? ⟨gb264, 2, none⟩ = some (u265002) := (blk_cell BK264.out 2).trans rfl
        have hcz103_3 : wr.cell? ⟨gb264, 3, none⟩ = some (u265003) := (blk_cell BK264.out 3).trans rfl
        have hcz103_4 : wr.cell? ⟨gb264, 4, none⟩ = some (u265004) := (blk_cell BK264.out 4).trans rfl
        have hfz103_0 := blk_frozen BK264.out 0
        have hfz103_1 := blk_frozen BK264.out 1
        have hfz103_2 := blk_frozen BK264.out 2
        have hfz103_3 := blk_frozen BK264.out 3
        have hfz103_4 := blk_frozen BK264.out 4
        obtain ⟨Ao104, co104, eo104⟩ := Kd.R_slice HO_265000.out
        subst eo104
        have hcz105_0 : wr.cell? ⟨gb260, 0, none⟩ = some (.slice none 0 0) := (blk_cell BK260.out 0).trans rfl
        have hcz105_1 : wr.cell? ⟨gb260, 1, none⟩ = some (.slice none 0 0) := (blk_cell BK260.out 1).trans rfl
        have hcz105_2 : wr.cell? ⟨gb260, 2, none⟩ = some (.slice none 0 0) := (blk_cell BK260.out 2).trans rfl
        have hcz105_3 : wr.cell? ⟨gb260, 3, none⟩ = some (.slice none 0 0) := (blk_cell BK260.out 3).trans rfl
        have hcz105_4 : wr.cell? ⟨gb260, 4, none⟩ = some (.slice none 0 0) := (blk_cell BK260.out 4).trans rfl
        have hfz105_0 := blk_frozen BK260.out 0
        have hfz105_1 := blk_frozen BK260.out 1
        have hfz105_2 := blk_frozen BK260.out 2
        have hfz105_3 := blk_frozen BK260.out 3
        have hfz105_4 := blk_frozen BK260.out 4
        obtain ⟨Ao106, co106, eo106⟩ := Kd.R_slice HO_265001.out
        subst eo106
        obtain ⟨Ao107, co107, eo107⟩ := Kd.R_slice HO_265002.out
        subst eo107
        obtain ⟨Ao108, co108, eo108⟩ := Kd.R_slice HO_265003.out
        subst eo108
        obtain ⟨Ao109, co109, eo109⟩ := Kd.R_slice HO_265004.out
        subst eo109
        go_wp2
        refine bodyPost_ret (results_cell_row rfl _ _ gb260 60 #[.slice Ao104 x265000_1.length co104, .slice Ao106 x265001_1.length co106, .slice Ao107 x265002_1.length co107, .slice Ao108 x265003_1.length co108, .slice Ao109 x265004_1.length co109] (0, 0) _ rfl (by (with_reducible repeat (first | refine blk_drewN ?_ _ | refine blk_drew ?_ | refine blk_alloc ?_ _)); refine blk_put (cs := #[.slice Ao104 x265000_1.length co104, .slice Ao106 x265001_1.length co106, .slice Ao107 x265002_1.length co107, .slice Ao108 x265003_1.length co108, .slice none 0 0]) ?_ 4 _ rfl; (with_reducible repeat (first | refine blk_drewN ?_ _ | refine blk_drew ?_ | refine blk_alloc ?_ _)); refine blk_put (cs := #[.slice Ao104 x265000_1.length co104, .slice Ao106 x265001_1.length co106, .slice Ao107 x265002_1.length co107, .slice none 0 0, .slice none 0 0]) ?_ 3 _ rfl; (with_reducible repeat (first | refine blk_drewN ?_ _ | refine blk_drew ?_ | refine blk_alloc ?_ _)); refine blk_put (cs := #[.slice Ao104 x265000_1.length co104, .slice Ao106 x265001_1.length co106, .slice none 0 0, .slice none 0 0, .slice none 0 0]) ?_ 2 _ rfl; (with_reducible repeat (first | refine blk_drewN ?_ _ | refine blk_drew ?_ | refine blk_alloc ?_ _)); refine blk_put (cs := #[.slice Ao104 x265000_1.length co104, .slice none 0 0, .slice none 0 0, .slice none 0 0, .slice none 0 0]) ?_ 1 _ rfl; (with_reducible repeat (first | refine blk_drewN ?_ _ | refine blk_drew ?_ | refine blk_alloc ?_ _)); refine blk_put (cs := #[.slice none 0 0, .slice none 0 0, .slice none 0 0, .slice none 0 0, .slice none 0 0]) ?_ 0 _ rfl; (with_reducible repeat (first | refine blk_drewN ?_ _ | refine blk_drew ?_ | refine blk_alloc ?_ _)); exact BK260.out) Try.underlying60 rfl (by kernel_rfl)) rfl ?_
        exact ⟨_, _, _, _, _, by first | rfl | (simp [errW_none, errW_some] <;> rfl) | (simp [*, errW_none, errW_some] <;> rfl), by (with_reducible repeat (first | apply Kd.R_alloc | apply Kd.R_drewN | apply Kd.R_drew)); exact Kd.R_mono (Kd.R_far (p := ⟨gb260, 4, none⟩) (Kd.R_far (p := ⟨gb260, 3, none⟩) (Kd.R_far (p := ⟨gb260, 2, none⟩) (Kd.R_far (p := ⟨gb260, 1, none⟩) (Kd.R_far (p := ⟨gb260, 0, none⟩) (Kd.R_types HO_265000.out BK260.out (by decide)) (fun _ hk => hk.2) (.slice Ao104 x265000_1.length co104)) (fun _ hk => hk.2) (.slice Ao106 x265001_1.length co106)) (fun _ hk => hk.2) (.slice Ao107 x265002_1.length co107)) (fun _ hk => hk.2) (.slice Ao108 x265003_1.length co108)) (fun _ hk => hk.2) (.slice Ao109 x265004_1.length co109)) (fun _ hk => ⟨hk.1.1, ⟨hk.1.2.1, ⟨hk.1.2.2.1, hk.1.2.2.2⟩⟩⟩), by (with_reducible repeat (first | apply Kd.R_alloc | apply Kd.R_drewN | apply Kd.R_drew)); exact Kd.R_mono (Kd.R_far (p := ⟨gb260, 4, none⟩) (Kd.R_far (p := ⟨gb260, 3, none⟩) (Kd.R_far (p := ⟨gb260, 2, none⟩) (Kd.R_far (p := ⟨gb260, 1, none⟩) (Kd.R_far (p := ⟨gb260, 0, none⟩) (Kd.R_types HO_265001.out BK260.out (by decide)) (fun _ hk => hk.2) (.slice Ao104 x265000_1.length co104)) (fun _ hk => hk.2) (.slice Ao106 x265001_1.length co106)) (fun _ hk => hk.2) (.slice Ao107 x265002_1.length co107)) (fun _ hk => hk.2) (.slice Ao108 x265003_1.length co108)) (fun _ hk => hk.2) (.slice Ao109 x265004_1.length co109)) (fun _ hk => ⟨hk.1.1, ⟨hk.1.2.1, ⟨hk.1.2.2.1, hk.1.2.2.2⟩⟩⟩), by (with_reducible repeat (first | apply Kd.R_alloc | apply Kd.R_drewN | apply Kd.R_drew)); exact Kd.R_mono (Kd.R_far (p := ⟨gb260, 4, none⟩) (Kd.R_far (p := ⟨gb260, 3, none⟩) (Kd.R_far (p := ⟨gb260, 2, none⟩) (Kd.R_far (p := ⟨gb260, 1, none⟩) (Kd.R_far (p := ⟨gb260, 0, none⟩) (Kd.R_types HO_265002.out BK260.out (by decide)) (fun _ hk => hk.2) (.slice Ao104 x265000_1.length co104)) (fun _ hk => hk.2) (.slice Ao106 x265001_1.length co106)) (fun _ hk => hk.2) (.slice Ao107 x265002_1.length co107)) (fun _ hk => hk.2) (.slice Ao108 x265003_1.length co108)) (fun _ hk => hk.2) (.slice Ao109 x265004_1.length co109)) (fun _ hk => ⟨hk.1.1, ⟨hk.1.2.1, ⟨hk.1.2.2.1, hk.1.2.2.2⟩⟩⟩), by (with_reducible repeat (first | apply Kd.R_alloc | apply Kd.R_drewN | apply Kd.R_drew)); exact Kd.R_mono (Kd.R_far (p := ⟨gb260, 4, none⟩) (Kd.R_far (p := ⟨gb260, 3, none⟩) (Kd.R_far (p := ⟨gb260, 2, none⟩) (Kd.R_far (p := ⟨gb260, 1, none⟩) (Kd.R_far (p := ⟨gb260, 0, none⟩) (Kd.R_types HO_265003.out BK260.out (by decide)) (fun _ hk => hk.2) (.slice Ao104 x265000_1.length co104)) (fun _ hk => hk.2) (.slice Ao106 x265001_1.length co106)) (fun _ hk => hk.2) (.slice Ao107 x265002_1.length co107)) (fun _ hk => hk.2) (.slice Ao108 x265003_1.length co108)) (fun _ hk => hk.2) (.slice Ao109 x265004_1.length co109)) (fun _ hk => ⟨hk.1.1, ⟨hk.1.2.1, ⟨hk.1.2.2.1, hk.1.2.2.2⟩⟩⟩), by (with_reducible repeat (first | apply Kd.R_alloc | apply Kd.R_drewN | apply Kd.R_drew)); exact Kd.R_mono (Kd.R_far (p := ⟨gb260, 4, none⟩) (Kd.R_far (p := ⟨gb260, 3, none⟩) (Kd.R_far (p := ⟨gb260, 2, none⟩) (Kd.R_far (p := ⟨gb260, 1, none⟩) (Kd.R_far (p := ⟨gb260, 0, none⟩) (Kd.R_types HO_265004.out BK260.out (by decide)) (fun _ hk => hk.2) (.slice Ao104 x265000_1.length co104)) (fun _ hk => hk.2) (.slice Ao106 x265001_1.length co106)) (fun _ hk => hk.2) (.slice Ao107 x265002_1.length co107)) (fun _ hk => hk.2) (.slice Ao108 x265003_1.length co108)) (fun _ hk => hk.2) (.slice Ao109 x265004_1.length co109)) (fun _ hk => ⟨hk.1.1, ⟨hk.1.2.1, ⟨hk.1.2.2.1, hk.1.2.2.2⟩⟩⟩), by repeat (first | (with_reducible first | exact HB.out | apply below_alloc | apply pw_below_drewN | apply below_drew1 | refine below_set ?_ GE260.out | refine below_set ?_ GE264.out) | exact HB.out)⟩

end Go.Proofs.Ythhmkkclmopkhaa.P
