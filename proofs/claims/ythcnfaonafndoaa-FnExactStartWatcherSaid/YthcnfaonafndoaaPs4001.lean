/- The walk of this law's function. -/
import Derived.Test.YthcnfaonafndoaaPs0
import Derived.Test.YthcnfaonafndoaaPs9
import Derived.Test.YthcnfaonafndoaaPs11
import Derived.Test.YthcnfaonafndoaaPs12
import Derived.Test.YthcnfaonafndoaaPs15
import Derived.Test.YthcnfaonafndoaaPs20
import Derived.Test.YthcnfaonafndoaaPs25
import Derived.Test.YthcnfaonafndoaaPs29
import Derived.Test.YthcnfaonafndoaaPs31
import Derived.Test.YthcnfaonafndoaaPs35
import Derived.Test.YthcnfaonafndoaaPs4
namespace Go.Proofs.Ythcnfaonafndoaa.S
open Go.RowKit Go.Proofs.YthcnfaonafndoaaW.PrintWords Go.Proofs.YthcnfaonafndoaaW.PrintLast Go.Proofs.YthcnfaonafndoaaW.PrintMore
set_option linter.unusedVariables false
set_option linter.unusedSimpArgs false
set_option maxHeartbeats 8000000 in
set_option maxRecDepth 100000 in
theorem laws_FnExactStartWatcher.calls (k : Nat) (A0_0 : Option Addr) (c0_0 : Nat) (l0_0 : List (S63)) (r : Bool) (w : World) (hr0_0 : Kd.C k63 w A0_0 l0_0.length l0_0) (hc0_0 : l0_0.length ≤ c0_0) (h : laws_FnExactStartWatcher.f k l0_0 = some r) :
  Calls Try.prog 4 #[.agg #[.slice A0_0 l0_0.length c0_0]] w fun e w' => e = .returned (.bool r) ∧ Below w.heap.size w w' := by
 have hu24 := Try.underlying24
 have hu37 := Try.underlying37
 have hu30 := Try.underlying30
 have HR0_0 := Aside0.mk hr0_0
 have HC0_0 := Aside0.mk hc0_0
 clear hr0_0 hc0_0
 have HB := Aside0.mk (Below.refl w.heap.size w)
 have H : ((laws_szQuery.f k l0_0 1048576).bind fun t213 => (if t213 < 0 then (some true) else ((laws_toQuery.f k l0_0).bind fun t214 => ((spec_StartWatcher.f k t214).bind fun bt217 => ((laws_toQuery.f k l0_0).bind fun t229 => ((impl_StartWatcher.f k t229).bind fun bt233 => ((laws_eqWatcher.f k bt233.1 bt233.2.1 bt233.2.2.1 bt233.2.2.2.1 bt217.1 bt217.2.1 bt217.2.2.1 bt217.2.2.2.1).bind fun t245 => (if t245 = true then (laws_FnExactStartWatcher.j0 k bt217.2.2.2.2 bt233.2.2.2.2 (bt233.2.2.2.2 != bt217.2.2.2.2) l0_0 bt217.1 bt217.2.1 bt217.2.2.1 bt217.2.2.2.1 t229 bt233.1 bt233.2.1 bt233.2.2.1 bt233.2.2.2.1) else (laws_FnExactStartWatcher.j0 k bt217.2.2.2.2 bt233.2.2.2.2 true l0_0 bt217.1 bt217.2.1 bt217.2.2.1 bt217.2.2.2.1 t229 bt233.1 bt233.2.1 bt233.2.2.1 bt233.2.2.2.1))))))))) = some r := h
 clear h
 replace H := Option.bind_eq_some_iff.mp H
 obtain ⟨t213, A20, H⟩ := H
 replace H : (if t213 < 0 then (some true) else ((laws_toQuery.f k l0_0).bind fun t214 => ((spec_StartWatcher.f k t214).bind fun bt217 => ((laws_toQuery.f k l0_0).bind fun t229 => ((impl_StartWatcher.f k t229).bind fun bt233 => ((laws_eqWatcher.f k bt233.1 bt233.2.1 bt233.2.2.1 bt233.2.2.2.1 bt217.1 bt217.2.1 bt217.2.2.1 bt217.2.2.2.1).bind fun t245 => (if t245 = true then (laws_FnExactStartWatcher.j0 k bt217.2.2.2.2 bt233.2.2.2.2 (bt233.2.2.2.2 != bt217.2.2.2.2) l0_0 bt217.1 bt217.2.1 bt217.2.2.1 bt217.2.2.2.1 t229 bt233.1 bt233.2.1 bt233.2.2.1 bt233.2.2.2.1) else (laws_FnExactStartWatcher.j0 k bt217.2.2.2.2 bt233.2.2.2.2 true l0_0 bt217.1 bt217.2.1 bt217.2.2.1 bt217.2.2.2.1 t229 bt233.1 bt233.2.1 bt233.2.2.1 bt233.2.2.2.1)))))))) = some r := H
 have A2 := Aside0.mk A20
 clear A20
 by_cases c3 : t213 < 0
 ·rw [if_pos c3] at H
  have c3b0 : decide (t213 < 0) = true := decide_eq_true c3
  clear c3
  obtain rfl := Option.some.inj H
  go_enter Try.func4, Try.ntmps4
  go_wp2_with (first | ((with_reducible refine gate_dst (N := 1) rfl ?_); refine box_event ?hg (N := 1) ?hd (cs := #[.slice A0_0 l0_0.length c0_0]) (t := 24) ?hr ?_; (case hd => rfl); (case hg => rfl); (case hr => first | (go_simp; done) | (go_simp; rfl)); intro gb212 hg w4 hbox hb; have n0_ := Aside0.mk (below_step (by repeat (first | (with_reducible first | exact HB.out | apply below_alloc | apply pw_below_drewN | apply below_drew1) | exact HB.out)) hb); have n1_ := Aside0.mk (hbox); have n2_ := Aside0.mk ((by rw [hg]; exact (below_size (by repeat (first | (with_reducible first | exact HB.out | apply below_alloc | apply pw_below_drewN | apply below_drew1) | exact HB.out))) : w.heap.size ≤ gb212)); have n3_ := Aside0.mk ((by rw [hg]; exact (below_size (by repeat (first | (with_reducible first | exact HB.out | apply below_alloc | apply pw_below_drewN | apply below_drew1) | exact HB.out))) : w.heap.size ≤ gb212)); clear HB; have HB := n0_; have BK212 := n1_; have GW212 := n2_; have GE212 := n3_; clear n0_ n1_ n2_ n3_; clear hb hbox hg; have hcz5_0 : w4.cell? ⟨gb212, 0, none⟩ = some (.slice A0_0 l0_0.length c0_0) := (blk_cell BK212.out 0).trans rfl; have hfz5_0 := blk_frozen BK212.out 0) | ((with_reducible refine gate_callee (f := 5) rfl ?_); refine goesL_ (some 16) rfl rfl Try.func5 (by kernel_rfl) rfl #[.agg #[.slice A0_0 l0_0.length c0_0], .int .i64 1048576] rfl (by (try simp only [List.map_toArray, List.map_cons, List.map_nil]); first | done | rfl | (simp only [List.length_drop, List.length_take]; rfl)) ?_; (with_reducible refine (laws_szQuery.calls k _ _ l0_0 1048576 t213 _ ?side1 ?side2 A2.out).mono ?_); (case side1 => repeat (first | exact (Kd.C_below HR0_0.out HB.out) | (with_reducible refine Kd.C_alloc ?_ _) | (with_reducible refine Kd.C_drewN ?_ _) | (with_reducible refine Kd.C_drew ?_))); (case side2 => exact HC0_0.out); rintro e w6 ⟨rfl, hb⟩; refine ⟨_, rfl, ?_⟩; have n0_ := Aside0.mk (blk_below (g := gb212) (o := .cells #[.slice A0_0 l0_0.length c0_0] 24 (0, 0)) (by (with_reducible repeat (first | refine blk_drewN ?_ _ | refine blk_drew ?_ | refine blk_alloc ?_ _)); exact BK212.out) hb); have n1_ := Aside0.mk (below_step (by repeat (first | (with_reducible first | exact HB.out | apply below_alloc | apply pw_below_drewN | apply below_drew1 | refine below_set ?_ GE212.out) | exact HB.out)) hb); clear BK212; clear HB; have BK212 := n0_; have HB := n1_; clear n0_ n1_; (try clear hb); (try clear hb2); (try clear hk); (try clear hi)))
  go_ret
  exact ⟨by first | rfl | (simp [errW_none, errW_some] <;> rfl) | (simp [*, errW_none, errW_some] <;> rfl), by repeat (first | (with_reducible first | exact HB.out | apply below_alloc | apply pw_below_drewN | apply below_drew1 | refine below_set ?_ GE212.out) | exact HB.out)⟩
 ·rw [if_neg c3] at H
  have c3b0 : decide (t213 < 0) = false := decide_eq_false c3
  clear c3
  replace H := Option.bind_eq_some_iff.mp H
  obtain ⟨t214, A70, H⟩ := H
  replace H : ((spec_StartWatcher.f k t214).bind fun bt217 => ((laws_toQuery.f k l0_0).bind fun t229 => ((impl_StartWatcher.f k t229).bind fun bt233 => ((laws_eqWatcher.f k bt233.1 bt233.2.1 bt233.2.2.1 bt233.2.2.2.1 bt217.1 bt217.2.1 bt217.2.2.1 bt217.2.2.2.1).bind fun t245 => (if t245 = true then (laws_FnExactStartWatcher.j0 k bt217.2.2.2.2 bt233.2.2.2.2 (bt233.2.2.2.2 != bt217.2.2.2.2) l0_0 bt217.1 bt217.2.1 bt217.2.2.1 bt217.2.2.2.1 t229 bt233.1 bt233.2.1 bt233.2.2.1 bt233.2.2.2.1) else (laws_FnExactStartWatcher.j0 k bt217.2.2.2.2 bt233.2.2.2.2 true l0_0 bt217.1 bt217.2.1 bt217.2.2.1 bt217.2.2.2.1 t229 bt233.1 bt233.2.1 bt233.2.2.1 bt233.2.2.2.1)))))) = some r := H
  have A7 := Aside0.mk A70
  clear A70
  replace H := Option.bind_eq_some_iff.mp H
  obtain ⟨⟨t217, t220, t221, t224, t227⟩, A80, H⟩ := H
  replace H : ((laws_toQuery.f k l0_0).bind fun t229 => ((impl_StartWatcher.f k t229).bind fun bt233 => ((laws_eqWatcher.f k bt233.1 bt233.2.1 bt233.2.2.1 bt233.2.2.2.1 t217 t220 t221 t224).bind fun t245 => (if t245 = true then (laws_FnExactStartWatcher.j0 k t227 bt233.2.2.2.2 (bt233.2.2.2.2 != t227) l0_0 t217 t220 t221 t224 t229 bt233.1 bt233.2.1 bt233.2.2.1 bt233.2.2.2.1) else (laws_FnExactStartWatcher.j0 k t227 bt233.2.2.2.2 true l0_0 t217 t220 t221 t224 t229 bt233.1 bt233.2.1 bt233.2.2.1 bt233.2.2.2.1))))) = some r := H
  have A8 := Aside0.mk A80
  clear A80
  replace H := Option.bind_eq_some_iff.mp H
  obtain ⟨t229, A90, H⟩ := H
  replace H : ((impl_StartWatcher.f k t229).bind fun bt233 => ((laws_eqWatcher.f k bt233.1 bt233.2.1 bt233.2.2.1 bt233.2.2.2.1 t217 t220 t221 t224).bind fun t245 => (if t245 = true then (laws_FnExactStartWatcher.j0 k t227 bt233.2.2.2.2 (bt233.2.2.2.2 != t227) l0_0 t217 t220 t221 t224 t229 bt233.1 bt233.2.1 bt233.2.2.1 bt233.2.2.2.1) else (laws_FnExactStartWatcher.j0 k t227 bt233.2.2.2.2 true l0_0 t217 t220 t221 t224 t229 bt233.1 bt233.2.1 bt233.2.2.1 bt233.2.2.2.1)))) = some r := H
  have A9 := Aside0.mk A90
  clear A90
  replace H := Option.bind_eq_some_iff.mp H
  obtain ⟨⟨t233, t236, t237, t240, t243⟩, A100, H⟩ := H
  replace H : ((laws_eqWatcher.f k t233 t236 t237 t240 t217 t220 t221 t224).bind fun t245 => (if t245 = true then (laws_FnExactStartWatcher.j0 k t227 t243 (t243 != t227) l0_0 t217 t220 t221 t224 t229 t233 t236 t237 t240) else (laws_FnExactStartWatcher.j0 k t227 t243 true l0_0 t217 t220 t221 t224 t229 t233 t236 t237 t240))) = some r := H
  have A10 := Aside0.mk A100
  clear A100
  have HC11 := Aside0.mk H
  clear H
  go_enter Try.func4, Try.ntmps4
  go_upto_region 8 with (first | ((with_reducible refine gate_dst (N := 1) rfl ?_); refine box_event ?hg (N := 1) ?hd (cs := #[.slice A0_0 l0_0.length c0_0]) (t := 24) ?hr ?_; (case hd => rfl); (case hg => rfl); (case hr => first | (go_simp; done) | (go_simp; rfl)); intro gb212 hg w12 hbox hb; have n0_ := Aside0.mk (below_step (by repeat (first | (with_reducible first | exact HB.out | apply below_alloc | apply pw_below_drewN | apply below_drew1) | exact HB.out)) hb); have n1_ := Aside0.mk (hbox); have n2_ := Aside0.mk ((by rw [hg]; exact (below_size (by repeat (first | (with_reducible first | exact HB.out | apply below_alloc | apply pw_below_drewN | apply below_drew1) | exact HB.out))) : w.heap.size ≤ gb212)); have n3_ := Aside0.mk ((by rw [hg]; exact (below_size (by repeat (first | (with_reducible first | exact HB.out | apply below_alloc | apply pw_below_drewN | apply below_drew1) | exact HB.out))) : w.heap.size ≤ gb212)); clear HB; have HB := n0_; have BK212 := n1_; have GW212 := n2_; have GE212 := n3_; clear n0_ n1_ n2_ n3_; clear hb hbox hg; have hcz13_0 : w12.cell? ⟨gb212, 0, none⟩ = some (.slice A0_0 l0_0.length c0_0) := (blk_cell BK212.out 0).trans rfl; have hfz13_0 := blk_frozen BK212.out 0) | ((with_reducible refine gate_callee (f := 5) rfl ?_); refine goesL_ (some 16) rfl rfl Try.func5 (by kernel_rfl) rfl #[.agg #[.slice A0_0 l0_0.length c0_0], .int .i64 1048576] rfl (by (try simp only [List.map_toArray, List.map_cons, List.map_nil]); first | done | rfl | (simp only [List.length_drop, List.length_take]; rfl)) ?_; (with_reducible refine (laws_szQuery.calls k _ _ l0_0 1048576 t213 _ ?side1 ?side2 A2.out).mono ?_); (case side1 => repeat (first | exact (Kd.C_below HR0_0.out HB.out) | (with_reducible refine Kd.C_alloc ?_ _) | (with_reducible refine Kd.C_drewN ?_ _) | (with_reducible refine Kd.C_drew ?_))); (case side2 => exact HC0_0.out); rintro e w14 ⟨rfl, hb⟩; refine ⟨_, rfl, ?_⟩; have n0_ := Aside0.mk (blk_below (g := gb212) (o := .cells #[.slice A0_0 l0_0.length c0_0] 24 (0, 0)) (by (with_reducible repeat (first | refine blk_drewN ?_ _ | refine blk_drew ?_ | refine blk_alloc ?_ _)); exact BK212.out) hb); have n1_ := Aside0.mk (below_step (by repeat (first | (with_reducible first | exact HB.out | apply below_alloc | apply pw_below_drewN | apply below_drew1 | refine below_set ?_ GE212.out) | exact HB.out)) hb); clear BK212; clear HB; have BK212 := n0_; have HB := n1_; clear n0_ n1_; (try clear hb); (try clear hb2); (try clear hk); (try clear hi); have hcz15_0 : w14.cell? ⟨gb212, 0, none⟩ = some (.slice A0_0 l0_0.length c0_0) := (blk_cell BK212.out 0).trans rfl; have hfz15_0 := blk_frozen BK212.out 0) | ((with_reducible refine gate_callee (f := 7) rfl ?_); refine goesL_ (some 21) rfl rfl Try.func7 (by kernel_rfl) rfl #[.agg #[.slice A0_0 l0_0.length c0_0]] rfl (by (try simp only [List.map_toArray, List.map_cons, List.map_nil]); first | done | rfl | (simp only [List.length_drop, List.length_take]; rfl)) ?_; (with_reducible refine (laws_toQuery.calls k _ _ l0_0 t214 _ ?side1 ?side2 A7.out).mono ?_); (case side1 => repeat (first | exact (Kd.C_below HR0_0.out HB.out) | (with_reducible refine Kd.C_alloc ?_ _) | (with_reducible refine Kd.C_drewN ?_ _) | (with_reducible refine Kd.C_drew ?_))); (case side2 => exact HC0_0.out); rintro e w16 ⟨v215, rfl, ho0, hb⟩; refine ⟨_, rfl, ?_⟩; have n0_ := Aside0.mk (Kd.R_lower ho0 (below_size (by repeat (first | (with_reducible first | exact HB.out | apply below_alloc | apply pw_below_drewN | apply below_drew1 | refine below_set ?_ GE212.out) | exact HB.out)))); have n1_ := Aside0.mk (blk_below (g := gb212) (o := .cells #[.slice A0_0 l0_0.length c0_0] 24 (0, 0)) (by (with_reducible repeat (first | refine blk_drewN ?_ _ | refine blk_drew ?_ | refine blk_alloc ?_ _)); exact BK212.out) hb); have n2_ := Aside0.mk (below_step (by repeat (first | (with_reducible first | exact HB.out | apply below_alloc | apply pw_below_drewN | apply below_drew1 | refine below_set ?_ GE212.out) | exact HB.out)) hb); clear BK212; clear HB; have HO216 := n0_; have BK212 := n1_; have HB := n2_; clear n0_ n1_ n2_; (try clear hb); (try clear hb2); (try clear hk); (try clear hi); (try clear ho0); obtain ⟨Ao17, co17, eo17⟩ := Kd.R_slice HO216.out; subst eo17) | ((with_reducible refine gate_callee (f := 10) rfl ?_); refine goesL_ (some 22) rfl rfl Try.func10 (by kernel_rfl) rfl #[.agg #[.slice Ao17 t214.length co17]] rfl (by (try simp only [List.map_toArray, List.map_cons, List.map_nil]); first | done | rfl | (simp only [List.length_drop, List.length_take]; rfl)) ?_; (with_reducible refine (spec_StartWatcher.calls k _ _ t214 t217 t220 t221 t224 t227 _ ?side1 ?side2 A8.out).mono ?_); (case side1 => repeat (first | exact (Kd.R_reads' HO216.out).2.2 | (with_reducible refine Kd.C_alloc ?_ _) | (with_reducible refine Kd.C_drewN ?_ _) | (with_reducible refine Kd.C_drew ?_))); (case side2 => exact (Kd.R_reads' HO216.out).2.1); rintro e w18 ⟨v218, v222, v225, rfl, ho0, ho1, ho2, hb⟩; refine ⟨_, rfl, ?_⟩; have n0_ := Aside0.mk (Kd.R_elder' (by (with_reducible repeat (first | apply Kd.R_alloc | apply Kd.R_drewN | apply Kd.R_drew)); exact HO216.out) (Kd.R_base ho0) hb); have n1_ := Aside0.mk (Kd.R_lower (Kd.R_new' ho0 (Kd.R_lt (by (with_reducible repeat (first | apply Kd.R_alloc | apply Kd.R_drewN | apply Kd.R_drew)); exact HO216.out))) (below_size (by repeat (first | (with_reducible first | exact HB.out | apply below_alloc | apply pw_below_drewN | apply below_drew1 | refine below_set ?_ GE212.out) | exact HB.out)))); have n2_ := Aside0.mk (Kd.R_lower ho1 (below_size (by repeat (first | (with_reducible first | exact HB.out | apply below_alloc | apply pw_below_drewN | apply below_drew1 | refine below_set ?_ GE212.out) | exact HB.out)))); have n3_ := Aside0.mk (Kd.S_lower ho2 (below_size (by repeat (first | (with_reducible first | exact HB.out | apply below_alloc | apply pw_below_drewN | apply below_drew1 | refine below_set ?_ GE212.out) | exact HB.out)))); have n4_ := Aside0.mk (blk_below (g := gb212) (o := .cells #[.slice A0_0 l0_0.length c0_0] 24 (0, 0)) (by (with_reducible repeat (first | refine blk_drewN ?_ _ | refine blk_drew ?_ | refine blk_alloc ?_ _)); exact BK212.out) hb); have n5_ := Aside0.mk (below_step (by repeat (first | (with_reducible first | exact HB.out | apply below_alloc | apply pw_below_drewN | apply below_drew1 | refine below_set ?_ GE212.out) | exact HB.out)) hb); clear HO216; clear BK212; clear HB; have HO216 := n0_; have HO219 := n1_; have HO223 := n2_; have HO226 := n3_; have BK212 := n4_; have HB := n5_; clear n0_ n1_ n2_ n3_ n4_ n5_; (try clear hb); (try clear hb2); (try clear hk); (try clear hi); (try clear ho0); (try clear ho1); (try clear ho2)) | ((with_reducible refine gate_dst (N := 4) rfl ?_); refine box_event ?hg (N := 4) ?hd (cs := #[.slice none 0 0, .int .i64 0, .slice none 0 0, .slice none 0 0]) (t := 37) ?hr ?_; (case hd => rfl); (case hg => rfl); (case hr => first | (go_simp; done) | (go_simp; rfl)); intro gb228 hg w19 hbox hb; have n0_ := Aside0.mk (Kd.R_below (by (with_reducible repeat (first | apply Kd.R_alloc | apply Kd.R_drewN | apply Kd.R_drew)); exact HO216.out) hb); have n1_ := Aside0.mk (Kd.R_below (by (with_reducible repeat (first | apply Kd.R_alloc | apply Kd.R_drewN | apply Kd.R_drew)); exact HO219.out) hb); have n2_ := Aside0.mk (Kd.R_below (by (with_reducible repeat (first | apply Kd.R_alloc | apply Kd.R_drewN | apply Kd.R_drew)); exact HO223.out) hb); have n3_ := Aside0.mk (Kd.S_below (by (with_reducible repeat (first | apply Kd.S_alloc | apply Kd.S_drewN | apply Kd.S_drew)); exact HO226.out) hb); have n4_ := Aside0.mk (blk_below (g := gb212) (o := .cells #[.slice A0_0 l0_0.length c0_0] 24 (0, 0)) (by (with_reducible repeat (first | refine blk_drewN ?_ _ | refine blk_drew ?_ | refine blk_alloc ?_ _)); exact BK212.out) hb); have n5_ := Aside0.mk (below_step (by repeat (first | (with_reducible first | exact HB.out | apply below_alloc | apply pw_below_drewN | apply below_drew1 | refine below_set ?_ GE212.out) | exact HB.out)) hb); have n6_ := Aside0.mk (hbox); have n7_ := Aside0.mk ((by rw [hg]; exact (below_size (by repeat (first | (with_reducible first | exact HB.out | apply below_alloc | apply pw_below_drewN | apply below_drew1 | refine below_set ?_ GE212.out) | exact HB.out))) : w.heap.size ≤ gb228)); have n8_ := Aside0.mk ((by rw [hg]; exact (below_size (by repeat (first | (with_reducible first | exact HB.out | apply below_alloc | apply pw_below_drewN | apply below_drew1 | refine below_set ?_ GE212.out) | exact HB.out))) : w.heap.size ≤ gb228)); have n9_ := Aside0.mk ((by rw [hg]; exact Nat.ne_of_lt (blk_lt (g := gb212) (o := .cells #[.slice A0_0 l0_0.length c0_0] 24 (0, 0)) (by (with_reducible repeat (first | refine blk_drewN ?_ _ | refine blk_drew ?_ | refine blk_alloc ?_ _)); exact BK212.out)) : gb212 ≠ gb228)); have n10_ := Aside0.mk ((by rw [hg]; exact Nat.ne_of_gt (blk_lt (g := gb212) (o := .cells #[.slice A0_0 l0_0.length c0_0] 24 (0, 0)) (by (with_reducible repeat (first | refine blk_drewN ?_ _ | refine blk_drew ?_ | refine blk_alloc ?_ _)); exact BK212.out)) : gb228 ≠ gb212)); clear HO216; clear HO219; clear HO223; clear HO226; clear BK212; clear HB; have HO216 := n0_; have HO219 := n1_; have HO223 := n2_; have HO226 := n3_; have BK212 := n4_; have HB := n5_; have BK228 := n6_; have GW228 := n7_; have GE228 := n8_; have NB212_228 := n9_; have NB228_212 := n10_; clear n0_ n1_ n2_ n3_ n4_ n5_ n6_ n7_ n8_ n9_ n10_; clear hb hbox hg; obtain ⟨Ao20, co20, eo20⟩ := Kd.R_slice HO219.out; subst eo20; have hnb21 := NB228_212.out; have hnc21 := NB212_228.out; have hcz22_0 : w19.cell? ⟨gb228, 0, none⟩ = some (.slice none 0 0) := (blk_cell BK228.out 0).trans rfl; have hcz22_1 : w19.cell? ⟨gb228, 1, none⟩ = some (.int .i64 0) := (blk_cell BK228.out 1).trans rfl; have hcz22_2 : w19.cell? ⟨gb228, 2, none⟩ = some (.slice none 0 0) := (blk_cell BK228.out 2).trans rfl; have hcz22_3 : w19.cell? ⟨gb228, 3, none⟩ = some (.slice none 0 0) := (blk_cell BK228.out 3).trans rfl; have hfz22_0 := blk_frozen BK228.out 0; have hfz22_1 := blk_frozen BK228.out 1; have hfz22_2 := blk_frozen BK228.out 2; have hfz22_3 := blk_frozen BK228.out 3; obtain ⟨Ao23, co23, eo23⟩ := Kd.R_slice HO223.out; subst eo23; obtain ⟨Ao24, co24, eo24⟩ := Kd.S_slice HO226.out; subst eo24; have hcz25_0 : w19.cell? ⟨gb212, 0, none⟩ = some (.slice A0_0 l0_0.length c0_0) := (blk_cell BK212.out 0).trans rfl; have hfz25_0 := blk_frozen BK212.out 0) | ((with_reducible refine gate_callee (f := 7) rfl ?_); refine goesL_ (some 26) rfl rfl Try.func7 (by kernel_rfl) rfl #[.agg #[.slice A0_0 l0_0.length c0_0]] rfl (by (try simp only [List.map_toArray, List.map_cons, List.map_nil]); first | done | rfl | (simp only [List.length_drop, List.length_take]; rfl)) ?_; (with_reducible refine (laws_toQuery.calls k _ _ l0_0 t229 _ ?side1 ?side2 A9.out).mono ?_); (case side1 => exact Kd.C_below HR0_0.out (by repeat (first | (with_reducible first | exact HB.out | apply below_alloc | apply pw_below_drewN | apply below_drew1 | refine below_set ?_ GE212.out | refine below_set ?_ GE228.out) | exact HB.out))); (case side2 => exact HC0_0.out); rintro e w26 ⟨v230, rfl, ho0, hb⟩; refine ⟨_, rfl, ?_⟩; have n0_ := Aside0.mk (Kd.R_elder' (by (with_reducible repeat (first | apply Kd.R_alloc | apply Kd.R_drewN | apply Kd.R_drew)); exact (Kd.R_mono (Kd.R_far (p := ⟨gb228, 3, none⟩) (Kd.R_far (p := ⟨gb228, 2, none⟩) (Kd.R_far (p := ⟨gb228, 1, none⟩) (Kd.R_far (p := ⟨gb228, 0, none⟩) (Kd.R_types HO216.out BK228.out (by decide)) (fun _ hk => hk.2) (.slice Ao20 t217.length co20)) (fun _ hk => hk.2) (.int .i64 t220)) (fun _ hk => hk.2) (.slice Ao23 t221.length co23)) (fun _ hk => hk.2) (.slice Ao24 t224.length co24)) (fun _ h_ => h_.1))) (Kd.R_base ho0) hb); have n1_ := Aside0.mk (Kd.R_elder' (by (with_reducible repeat (first | apply Kd.R_alloc | apply Kd.R_drewN | apply Kd.R_drew)); exact (Kd.R_mono (Kd.R_far (p := ⟨gb228, 3, none⟩) (Kd.R_far (p := ⟨gb228, 2, none⟩) (Kd.R_far (p := ⟨gb228, 1, none⟩) (Kd.R_far (p := ⟨gb228, 0, none⟩) (Kd.R_types HO219.out BK228.out (by decide)) (fun _ hk => hk.2) (.slice Ao20 t217.length co20)) (fun _ hk => hk.2) (.int .i64 t220)) (fun _ hk => hk.2) (.slice Ao23 t221.length co23)) (fun _ hk => hk.2) (.slice Ao24 t224.length co24)) (fun _ h_ => h_.1))) (Kd.R_base ho0) hb); have n2_ := Aside0.mk (Kd.R_below (by (with_reducible repeat (first | apply Kd.R_alloc | apply Kd.R_drewN | apply Kd.R_drew)); exact (Kd.R_mono (Kd.R_far (p := ⟨gb228, 3, none⟩) (Kd.R_far (p := ⟨gb228, 2, none⟩) (Kd.R_far (p := ⟨gb228, 1, none⟩) (Kd.R_far (p := ⟨gb228, 0, none⟩) (Kd.R_types HO223.out BK228.out (by decide)) (fun _ hk => hk.2) (.slice Ao20 t217.length co20)) (fun _ hk => hk.2) (.int .i64 t220)) (fun _ hk => hk.2) (.slice Ao23 t221.length co23)) (fun _ hk => hk.2) (.slice Ao24 t224.length co24)) (fun _ h_ => h_.1))) hb); have n3_ := Aside0.mk (Kd.S_below (by (with_reducible repeat (first | apply Kd.S_alloc | apply Kd.S_drewN | apply Kd.S_drew)); exact (Kd.S_mono (Kd.S_far (p := ⟨gb228, 3, none⟩) (Kd.S_far (p := ⟨gb228, 2, none⟩) (Kd.S_far (p := ⟨gb228, 1, none⟩) (Kd.S_far (p := ⟨gb228, 0, none⟩) (Kd.S_types HO226.out BK228.out (by decide)) (fun _ hk => hk.2) (.slice Ao20 t217.length co20)) (fun _ hk => hk.2) (.int .i64 t220)) (fun _ hk => hk.2) (.slice Ao23 t221.length co23)) (fun _ hk => hk.2) (.slice Ao24 t224.length co24)) (fun _ h_ => h_.1))) hb); have n4_ := Aside0.mk (Kd.R_lower (Kd.R_new' (Kd.R_new' ho0 (Kd.R_lt (by (with_reducible repeat (first | apply Kd.R_alloc | apply Kd.R_drewN | apply Kd.R_drew)); exact (Kd.R_mono (Kd.R_far (p := ⟨gb228, 3, none⟩) (Kd.R_far (p := ⟨gb228, 2, none⟩) (Kd.R_far (p := ⟨gb228, 1, none⟩) (Kd.R_far (p := ⟨gb228, 0, none⟩) (Kd.R_types HO216.out BK228.out (by decide)) (fun _ hk => hk.2) (.slice Ao20 t217.length co20)) (fun _ hk => hk.2) (.int .i64 t220)) (fun _ hk => hk.2) (.slice Ao23 t221.length co23)) (fun _ hk => hk.2) (.slice Ao24 t224.length co24)) (fun _ h_ => h_.1))))) (Kd.R_lt (by (with_reducible repeat (first | apply Kd.R_alloc | apply Kd.R_drewN | apply Kd.R_drew)); exact (Kd.R_mono (Kd.R_far (p := ⟨gb228, 3, none⟩) (Kd.R_far (p := ⟨gb228, 2, none⟩) (Kd.R_far (p := ⟨gb228, 1, none⟩) (Kd.R_far (p := ⟨gb228, 0, none⟩) (Kd.R_types HO219.out BK228.out (by decide)) (fun _ hk => hk.2) (.slice Ao20 t217.length co20)) (fun _ hk => hk.2) (.int .i64 t220)) (fun _ hk => hk.2) (.slice Ao23 t221.length co23)) (fun _ hk => hk.2) (.slice Ao24 t224.length co24)) (fun _ h_ => h_.1))))) (below_size (by repeat (first | (with_reducible first | exact HB.out | apply below_alloc | apply pw_below_drewN | apply below_drew1 | refine below_set ?_ GE212.out | refine below_set ?_ GE228.out) | exact HB.out)))); have n5_ := Aside0.mk (blk_below (g := gb212) (o := .cells #[.slice A0_0 l0_0.length c0_0] 24 (0, 0)) (by (with_reducible repeat (first | refine blk_drewN ?_ _ | refine blk_drew ?_ | refine blk_alloc ?_ _)); refine blk_far ?_ NB212_228.out _; (with_reducible repeat (first | refine blk_drewN ?_ _ | refine blk_drew ?_ | refine blk_alloc ?_ _)); refine blk_far ?_ NB212_228.out _; (with_reducible repeat (first | refine blk_drewN ?_ _ | refine blk_drew ?_ | refine blk_alloc ?_ _)); refine blk_far ?_ NB212_228.out _; (with_reducible repeat (first | refine blk_drewN ?_ _ | refine blk_drew ?_ | refine blk_alloc ?_ _)); refine blk_far ?_ NB212_228.out _; (with_reducible repeat (first | refine blk_drewN ?_ _ | refine blk_drew ?_ | refine blk_alloc ?_ _)); exact BK212.out) hb); have n6_ := Aside0.mk (blk_below (g := gb228) (o := .cells #[.slice Ao20 t217.length co20, .int .i64 t220, .slice Ao23 t221.length co23, .slice Ao24 t224.length co24] 37 (0, 0)) (by (with_reducible repeat (first | refine blk_drewN ?_ _ | refine blk_drew ?_ | refine blk_alloc ?_ _)); refine blk_put (cs := #[.slice Ao20 t217.length co20, .int .i64 t220, .slice Ao23 t221.length co23, .slice none 0 0]) ?_ 3 _ rfl; (with_reducible repeat (first | refine blk_drewN ?_ _ | refine blk_drew ?_ | refine blk_alloc ?_ _)); refine blk_put (cs := #[.slice Ao20 t217.length co20, .int .i64 t220, .slice none 0 0, .slice none 0 0]) ?_ 2 _ rfl; (with_reducible repeat (first | refine blk_drewN ?_ _ | refine blk_drew ?_ | refine blk_alloc ?_ _)); refine blk_put (cs := #[.slice Ao20 t217.length co20, .int .i64 0, .slice none 0 0, .slice none 0 0]) ?_ 1 _ rfl; (with_reducible repeat (first | refine blk_drewN ?_ _ | refine blk_drew ?_ | refine blk_alloc ?_ _)); refine blk_put (cs := #[.slice none 0 0, .int .i64 0, .slice none 0 0, .slice none 0 0]) ?_ 0 _ rfl; (with_reducible repeat (first | refine blk_drewN ?_ _ | refine blk_drew ?_ | refine blk_alloc ?_ _)); exact BK228.out) hb); have n7_ := Aside0.mk (below_step (by repeat (first | (with_reducible first | exact HB.out | apply below_alloc | apply pw_below_drewN | apply below_drew1 | refine below_set ?_ GE212.out | refine below_set ?_ GE228.out) | exact HB.out)) hb); clear HO216; clear HO219; clear HO223; clear HO226; clear BK212; clear BK228; clear HB; have HO216 := n0_; have HO219 := n1_; have HO223 := n2_; have HO226 := n3_; have HO231 := n4_; have BK212 := n5_; have BK228 := n6_; have HB := n7_; clear n0_ n1_ n2_ n3_ n4_ n5_ n6_ n7_; (try clear hb); (try clear hb2); (try clear hk); (try clear hi); (try clear ho0)) | ((with_reducible refine gate_dst (N := 6) rfl ?_); refine box_event ?hg (N := 6) ?hd (cs := #[.slice none 0 0]) (t := 30) ?hr ?_; (case hd => rfl); (case hg => rfl); (case hr => first | (go_simp; done) | (go_simp; rfl)); intro gb232 hg w27 hbox hb; have n0_ := Aside0.mk (Kd.R_below (by (with_reducible repeat (first | apply Kd.R_alloc | apply Kd.R_drewN | apply Kd.R_drew)); exact HO216.out) hb); have n1_ := Aside0.mk (Kd.R_below (by (with_reducible repeat (first | apply Kd.R_alloc | apply Kd.R_drewN | apply Kd.R_drew)); exact HO219.out) hb); have n2_ := Aside0.mk (Kd.R_below (by (with_reducible repeat (first | apply Kd.R_alloc | apply Kd.R_drewN | apply Kd.R_drew)); exact HO223.out) hb); have n3_ := Aside0.mk (Kd.S_below (by (with_reducible repeat (first | apply Kd.S_alloc | apply Kd.S_drewN | apply Kd.S_drew)); exact HO226.out) hb); have n4_ := Aside0.mk (Kd.R_below (by (with_reducible repeat (first | apply Kd.R_alloc | apply Kd.R_drewN | apply Kd.R_drew)); exact HO231.out) hb); have n5_ := Aside0.mk (blk_below (g := gb212) (o := .cells #[.slice A0_0 l0_0.length c0_0] 24 (0, 0)) (by (with_reducible repeat (first | refine blk_drewN ?_ _ | refine blk_drew ?_ | refine blk_alloc ?_ _)); exact BK212.out) hb); have n6_ := Aside0.mk (blk_below (g := gb228) (o := .cells #[.slice Ao20 t217.length co20, .int .i64 t220, .slice Ao23 t221.length co23, .slice Ao24 t224.length co24] 37 (0, 0)) (by (with_reducible repeat (first | refine blk_drewN ?_ _ | refine blk_drew ?_ | refine blk_alloc ?_ _)); exact BK228.out) hb); have n7_ := Aside0.mk (below_step (by repeat (first | (with_reducible first | exact HB.out | apply below_alloc | apply pw_below_drewN | apply below_drew1 | refine below_set ?_ GE212.out | refine below_set ?_ GE228.out) | exact HB.out)) hb); have n8_ := Aside0.mk (hbox); have n9_ := Aside0.mk ((by rw [hg]; exact (below_size (by repeat (first | (with_reducible first | exact HB.out | apply below_alloc | apply pw_below_drewN | apply below_drew1 | refine below_set ?_ GE212.out | refine below_set ?_ GE228.out) | exact HB.out))) : w.heap.size ≤ gb232)); have n10_ := Aside0.mk ((by rw [hg]; exact (below_size (by repeat (first | (with_reducible first | exact HB.out | apply below_alloc | apply pw_below_drewN | apply below_drew1 | refine below_set ?_ GE212.out | refine below_set ?_ GE228.out) | exact HB.out))) : w.heap.size ≤ gb232)); have n11_ := Aside0.mk ((by rw [hg]; exact Nat.ne_of_lt (blk_lt (g := gb212) (o := .cells #[.slice A0_0 l0_0.length c0_0] 24 (0, 0)) (by (with_reducible repeat (first | refine blk_drewN ?_ _ | refine blk_drew ?_ | refine blk_alloc ?_ _)); exact BK212.out)) : gb212 ≠ gb232)); have n12_ := Aside0.mk ((by rw [hg]; exact Nat.ne_of_gt (blk_lt (g := gb212) (o := .cells #[.slice A0_0 l0_0.length c0_0] 24 (0, 0)) (by (with_reducible repeat (first | refine blk_drewN ?_ _ | refine blk_drew ?_ | refine blk_alloc ?_ _)); exact BK212.out)) : gb232 ≠ gb212)); have n13_ := Aside0.mk ((by rw [hg]; exact Nat.ne_of_lt (blk_lt (g := gb228) (o := .cells #[.slice Ao20 t217.length co20, .int .i64 t220, .slice Ao23 t221.length co23, .slice Ao24 t224.length co24] 37 (0, 0)) (by (with_reducible repeat (first | refine blk_drewN ?_ _ | refine blk_drew ?_ | refine blk_alloc ?_ _)); exact BK228.out)) : gb228 ≠ gb232)); have n14_ := Aside0.mk ((by rw [hg]; exact Nat.ne_of_gt (blk_lt (g := gb228) (o := .cells #[.slice Ao20 t217.length co20, .int .i64 t220, .slice Ao23 t221.length co23, .slice Ao24 t224.length co24] 37 (0, 0)) (by (with_reducible repeat (first | refine blk_drewN ?_ _ | refine blk_drew ?_ | refine blk_alloc ?_ _)); exact BK228.out)) : gb232 ≠ gb228)); clear HO216; clear HO219; clear HO223; clear HO226; clear HO231; clear BK212; clear BK228; clear HB; have HO216 := n0_; have HO219 := n1_; have HO223 := n2_; have HO226 := n3_; have HO231 := n4_; have BK212 := n5_; have BK228 := n6_; have HB := n7_; have BK232 := n8_; have GW232 := n9_; have GE232 := n10_; have NB212_232 := n11_; have NB232_212 := n12_; have NB228_232 := n13_; have NB232_228 := n14_; clear n0_ n1_ n2_ n3_ n4_ n5_ n6_ n7_ n8_ n9_ n10_ n11_ n12_ n13_ n14_; clear hb hbox hg; obtain ⟨Ao28, co28, eo28⟩ := Kd.R_slice HO231.out; subst eo28; have hnb29 := NB232_212.out; have hnc29 := NB212_232.out; have hnb30 := NB232_228.out; have hnc30 := NB228_232.out; have hcz31_0 : w27.cell? ⟨gb232, 0, none⟩ = some (.slice none 0 0) := (blk_cell BK232.out 0).trans rfl; have hfz31_0 := blk_frozen BK232.out 0) | ((with_reducible refine gate_callee (f := 11) rfl ?_); refine goesL_ (some 29) rfl rfl Try.func11 (by kernel_rfl) rfl #[.agg #[.slice Ao28 t229.length co28]] rfl (by (try simp only [List.map_toArray, List.map_cons, List.map_nil]); first | done | rfl | (simp only [List.length_drop, List.length_take]; rfl)) ?_; (with_reducible refine (impl_StartWatcher.calls k _ _ t229 t233 t236 t237 t240 t243 _ ?side1 ?side2 A10.out).mono ?_); (case side1 => refine (Kd.R_reads' (e := 66) (base := w.heap.size) (ok := fun k_ => ((True ∧ some k_ ≠ (.slice Ao17 t214.length co17 : Value).ownBlock) ∧ some k_ ≠ (.slice Ao20 t217.length co20 : Value).ownBlock)) (n := t229.length) (c := co28) ?_).2.2; exact (by (with_reducible repeat (first | apply Kd.R_alloc | apply Kd.R_drewN | apply Kd.R_drew)); exact (Kd.R_mono (Kd.R_far (p := ⟨gb232, 0, none⟩) (Kd.R_types HO231.out BK232.out (by decide)) (fun _ hk => hk.2) (.slice Ao28 t229.length co28)) (fun _ h_ => h_.1)))); (case side2 => exact (Kd.R_reads' HO231.out).2.1); rintro e w32 ⟨v234, v238, v241, rfl, ho0, ho1, ho2, hb⟩; refine ⟨_, rfl, ?_⟩; have n0_ := Aside0.mk (Kd.R_elder' (by (with_reducible repeat (first | apply Kd.R_alloc | apply Kd.R_drewN | apply Kd.R_drew)); exact (Kd.R_mono (Kd.R_far (p := ⟨gb232, 0, none⟩) (Kd.R_types HO216.out BK232.out (by decide)) (fun _ hk => hk.2) (.slice Ao28 t229.length co28)) (fun _ h_ => h_.1))) (Kd.R_base ho0) hb); have n1_ := Aside0.mk (Kd.R_elder' (by (with_reducible repeat (first | apply Kd.R_alloc | apply Kd.R_drewN | apply Kd.R_drew)); exact (Kd.R_mono (Kd.R_far (p := ⟨gb232, 0, none⟩) (Kd.R_types HO219.out BK232.out (by decide)) (fun _ hk => hk.2) (.slice Ao28 t229.length co28)) (fun _ h_ => h_.1))) (Kd.R_base ho0) hb); have n2_ := Aside0.mk (Kd.R_elder' (by (with_reducible repeat (first | apply Kd.R_alloc | apply Kd.R_drewN | apply Kd.R_drew)); exact (Kd.R_mono (Kd.R_far (p := ⟨gb232, 0, none⟩) (Kd.R_types HO223.out BK232.out (by decide)) (fun _ hk => hk.2) (.slice Ao28 t229.length co28)) (fun _ h_ => h_.1))) (Kd.R_base ho1) hb); have n3_ := Aside0.mk (Kd.S_mono (Kd.S_told (Kd.S_told (Kd.S_old (by (with_reducible repeat (first | apply Kd.S_alloc | apply Kd.S_drewN | apply Kd.S_drew)); exact (Kd.S_mono (Kd.S_far (p := ⟨gb232, 0, none⟩) (Kd.S_types HO226.out BK232.out (by decide)) (fun _ hk => hk.2) (.slice Ao28 t229.length co28)) (fun _ h_ => h_.1))) hb) (Kd.R_base ho1)) (Kd.S_base ho2)) (fun _ h_ => h_.1)); have n4_ := Aside0.mk (Kd.R_elder' (by (with_reducible repeat (first | apply Kd.R_alloc | apply Kd.R_drewN | apply Kd.R_drew)); exact (Kd.R_mono (Kd.R_far (p := ⟨gb232, 0, none⟩) (Kd.R_types HO231.out BK232.out (by decide)) (fun _ hk => hk.2) (.slice Ao28 t229.length co28)) (fun _ h_ => h_.1))) (Kd.R_base ho0) hb); have n5_ := Aside0.mk (Kd.R_lower (Kd.R_new' (Kd.R_new' (Kd.R_new' ho0 (Kd.R_lt (by (with_reducible repeat (first | apply Kd.R_alloc | apply Kd.R_drewN | apply Kd.R_drew)); exact (Kd.R_mono (Kd.R_far (p := ⟨gb232, 0, none⟩) (Kd.R_types HO216.out BK232.out (by decide)) (fun _ hk => hk.2) (.slice Ao28 t229.length co28)) (fun _ h_ => h_.1))))) (Kd.R_lt (by (with_reducible repeat (first | apply Kd.R_alloc | apply Kd.R_drewN | apply Kd.R_drew)); exact (Kd.R_mono (Kd.R_far (p := ⟨gb232, 0, none⟩) (Kd.R_types HO219.out BK232.out (by decide)) (fun _ hk => hk.2) (.slice Ao28 t229.length co28)) (fun _ h_ => h_.1))))) (Kd.R_lt (by (with_reducible repeat (first | apply Kd.R_alloc | apply Kd.R_drewN | apply Kd.R_drew)); exact (Kd.R_mono (Kd.R_far (p := ⟨gb232, 0, none⟩) (Kd.R_types HO231.out BK232.out (by decide)) (fun _ hk => hk.2) (.slice Ao28 t229.length co28)) (fun _ h_ => h_.1))))) (below_size (by repeat (first | (with_reducible first | exact HB.out | apply below_alloc | apply pw_below_drewN | apply below_drew1 | refine below_set ?_ GE212.out | refine below_set ?_ GE228.out | refine below_set ?_ GE232.out) | exact HB.out)))); have n6_ := Aside0.mk (Kd.R_lower (Kd.R_new' ho1 (Kd.R_lt (by (with_reducible repeat (first | apply Kd.R_alloc | apply Kd.R_drewN | apply Kd.R_drew)); exact (Kd.R_mono (Kd.R_far (p := ⟨gb232, 0, none⟩) (Kd.R_types HO223.out BK232.out (by decide)) (fun _ hk => hk.2) (.slice Ao28 t229.length co28)) (fun _ h_ => h_.1))))) (below_size (by repeat (first | (with_reducible first | exact HB.out | apply below_alloc | apply pw_below_drewN | apply below_drew1 | refine below_set ?_ GE212.out | refine below_set ?_ GE228.out | refine below_set ?_ GE232.out) | exact HB.out)))); have n7_ := Aside0.mk (Kd.S_lower (Kd.S_new' (Kd.S_new' ho2 (Kd.R_lt (by (with_reducible repeat (first | apply Kd.R_alloc | apply Kd.R_drewN | apply Kd.R_drew)); exact (Kd.R_mono (Kd.R_far (p := ⟨gb232, 0, none⟩) (Kd.R_types HO223.out BK232.out (by decide)) (fun _ hk => hk.2) (.slice Ao28 t229.length co28)) (fun _ h_ => h_.1))))) (Kd.S_lt (by (with_reducible repeat (first | apply Kd.S_alloc | apply Kd.S_drewN | apply Kd.S_drew)); exact (Kd.S_mono (Kd.S_far (p := ⟨gb232, 0, none⟩) (Kd.S_types HO226.out BK232.out (by decide)) (fun _ hk => hk.2) (.slice Ao28 t229.length co28)) (fun _ h_ => h_.1))))) (below_size (by repeat (first | (with_reducible first | exact HB.out | apply below_alloc | apply pw_below_drewN | apply below_drew1 | refine below_set ?_ GE212.out | refine below_set ?_ GE228.out | refine below_set ?_ GE232.out) | exact HB.out)))); have n8_ := Aside0.mk (blk_below (g := gb212) (o := .cells #[.slice A0_0 l0_0.length c0_0] 24 (0, 0)) (by (with_reducible repeat (first | refine blk_drewN ?_ _ | refine blk_drew ?_ | refine blk_alloc ?_ _)); refine blk_far ?_ NB212_232.out _; (with_reducible repeat (first | refine blk_drewN ?_ _ | refine blk_drew ?_ | refine blk_alloc ?_ _)); exact BK212.out) hb); have n9_ := Aside0.mk (blk_below (g := gb228) (o := .cells #[.slice Ao20 t217.length co20, .int .i64 t220, .slice Ao23 t221.length co23, .slice Ao24 t224.length co24] 37 (0, 0)) (by (with_reducible repeat (first | refine blk_drewN ?_ _ | refine blk_drew ?_ | refine blk_alloc ?_ _)); refine blk_far ?_ NB228_232.out _; (with_reducible repeat (first | refine blk_drewN ?_ _ | refine blk_drew ?_ | refine blk_alloc ?_ _)); exact BK228.out) hb); have n10_ := Aside0.mk (blk_below (g := gb232) (o := .cells #[.slice Ao28 t229.length co28] 30 (0, 0)) (by (with_reducible repeat (first | refine blk_drewN ?_ _ | refine blk_drew ?_ | refine blk_alloc ?_ _)); refine blk_put (cs := #[.slice none 0 0]) ?_ 0 _ rfl; (with_reducible repeat (first | refine blk_drewN ?_ _ | refine blk_drew ?_ | refine blk_alloc ?_ _)); exact BK232.out) hb); have n11_ := Aside0.mk (below_step (by repeat (first | (with_reducible first | exact HB.out | apply below_alloc | apply pw_below_drewN | apply below_drew1 | refine below_set ?_ GE212.out | refine below_set ?_ GE228.out | refine below_set ?_ GE232.out) | exact HB.out)) hb); clear HO216; clear HO219; clear HO223; clear HO226; clear HO231; clear BK212; clear BK228; clear BK232; clear HB; have HO216 := n0_; have HO219 := n1_; have HO223 := n2_; have HO226 := n3_; have HO231 := n4_; have HO235 := n5_; have HO239 := n6_; have HO242 := n7_; have BK212 := n8_; have BK228 := n9_; have BK232 := n10_; have HB := n11_; clear n0_ n1_ n2_ n3_ n4_ n5_ n6_ n7_ n8_ n9_ n10_ n11_; (try clear hb); (try clear hb2); (try clear hk); (try clear hi); (try clear ho0); (try clear ho1); (try clear ho2)) | ((with_reducible refine gate_dst (N := 7) rfl ?_); refine box_event ?hg (N := 7) ?hd (cs := #[.slice none 0 0, .int .i64 0, .slice none 0 0, .slice none 0 0]) (t := 37) ?hr ?_; (case hd => rfl); (case hg => rfl); (case hr => first | (go_simp; done) | (go_simp; rfl)); intro gb244 hg w33 hbox hb; have n0_ := Aside0.mk (Kd.R_below (by (with_reducible repeat (first | apply Kd.R_alloc | apply Kd.R_drewN | apply Kd.R_drew)); exact HO216.out) hb); have n1_ := Aside0.mk (Kd.R_below (by (with_reducible repeat (first | apply Kd.R_alloc | apply Kd.R_drewN | apply Kd.R_drew)); exact HO219.out) hb); have n2_ := Aside0.mk (Kd.R_below (by (with_reducible repeat (first | apply Kd.R_alloc | apply Kd.R_drewN | apply Kd.R_drew)); exact HO223.out) hb); have n3_ := Aside0.mk (Kd.S_below (by (with_reducible repeat (first | apply Kd.S_alloc | apply Kd.S_drewN | apply Kd.S_drew)); exact HO226.out) hb); have n4_ := Aside0.mk (Kd.R_below (by (with_reducible repeat (first | apply Kd.R_alloc | apply Kd.R_drewN | apply Kd.R_drew)); exact HO231.out) hb); have n5_ := Aside0.mk (Kd.R_below (by (with_reducible repeat (first | apply Kd.R_alloc | apply Kd.R_drewN | apply Kd.R_drew)); exact HO235.out) hb); have n6_ := Aside0.mk (Kd.R_below (by (with_reducible repeat (first | apply Kd.R_alloc | apply Kd.R_drewN | apply Kd.R_drew)); exact HO239.out) hb); have n7_ := Aside0.mk (Kd.S_below (by (with_reducible repeat (first | apply Kd.S_alloc | apply Kd.S_drewN | apply Kd.S_drew)); exact HO242.out) hb); have n8_ := Aside0.mk (blk_below (g := gb212) (o := .cells #[.slice A0_0 l0_0.length c0_0] 24 (0, 0)) (by (with_reducible repeat (first | refine blk_drewN ?_ _ | refine blk_drew ?_ | refine blk_alloc ?_ _)); exact BK212.out) hb); have n9_ := Aside0.mk (blk_below (g := gb228) (o := .cells #[.slice Ao20 t217.length co20, .int .i64 t220, .slice Ao23 t221.length co23, .slice Ao24 t224.length co24] 37 (0, 0)) (by (with_reducible repeat (first | refine blk_drewN ?_ _ | refine blk_drew ?_ | refine blk_alloc ?_ _)); exact BK228.out) hb); have n10_ := Aside0.mk (blk_below (g := gb232) (o := .cells #[.slice Ao28 t229.length co28] 30 (0, 0)) (by (with_reducible repeat (first | refine blk_drewN ?_ _ | refine blk_drew ?_ | refine blk_alloc ?_ _)); exact BK232.out) hb); have n11_ := Aside0.mk (below_step (by repeat (first | (with_reducible first | exact HB.out | apply below_alloc | apply pw_below_drewN | apply below_drew1 | refine below_set ?_ GE212.out | refine below_set ?_ GE228.out | refine below_set ?_ GE232.out) | exact HB.out)) hb); have n12_ := Aside0.mk (hbox); have n13_ := Aside0.mk ((by rw [hg]; exact (below_size (by repeat (first | (with_reducible first | exact HB.out | apply below_alloc | apply pw_below_drewN | apply below_drew1 | refine below_set ?_ GE212.out | refine below_set ?_ GE228.out | refine below_set ?_ GE232.out) | exact HB.out))) : w.heap.size ≤ gb244)); have n14_ := Aside0.mk ((by rw [hg]; exact (below_size (by repeat (first | (with_reducible first | exact HB.out | apply below_alloc | apply pw_below_drewN | apply below_drew1 | refine below_set ?_ GE212.out | refine below_set ?_ GE228.out | refine below_set ?_ GE232.out) | exact HB.out))) : w.heap.size ≤ gb244)); have n15_ := Aside0.mk ((by rw [hg]; exact Nat.ne_of_lt (blk_lt (g := gb212) (o := .cells #[.slice A0_0 l0_0.length c0_0] 24 (0, 0)) (by (with_reducible repeat (first | refine blk_drewN ?_ _ | refine blk_drew ?_ | refine blk_alloc ?_ _)); exact BK212.out)) : gb212 ≠ gb244)); have n16_ := Aside0.mk ((by rw [hg]; exact Nat.ne_of_gt (blk_lt (g := gb212) (o := .cells #[.slice A0_0 l0_0.length c0_0] 24 (0, 0)) (by (with_reducible repeat (first | refine blk_drewN ?_ _ | refine blk_drew ?_ | refine blk_alloc ?_ _)); exact BK212.out)) : gb244 ≠ gb212)); have n17_ := Aside0.mk ((by rw [hg]; exact Nat.ne_of_lt (blk_lt (g := gb228) (o := .cells #[.slice Ao20 t217.length co20, .int .i64 t220, .slice Ao23 t221.length co23, .slice Ao24 t224.length co24] 37 (0, 0)) (by (with_reducible repeat (first | refine blk_drewN ?_ _ | refine blk_drew ?_ | refine blk_alloc ?_ _)); exact BK228.out)) : gb228 ≠ gb244)); have n18_ := Aside0.mk ((by rw [hg]; exact Nat.ne_of_gt (blk_lt (g := gb228) (o := .cells #[.slice Ao20 t217.length co20, .int .i64 t220, .slice Ao23 t221.length co23, .slice Ao24 t224.length co24] 37 (0, 0)) (by (with_reducible repeat (first | refine blk_drewN ?_ _ | refine blk_drew ?_ | refine blk_alloc ?_ _)); exact BK228.out)) : gb244 ≠ gb228)); have n19_ := Aside0.mk ((by rw [hg]; exact Nat.ne_of_lt (blk_lt (g := gb232) (o := .cells #[.slice Ao28 t229.length co28] 30 (0, 0)) (by (with_reducible repeat (first | refine blk_drewN ?_ _ | refine blk_drew ?_ | refine blk_alloc ?_ _)); exact BK232.out)) : gb232 ≠ gb244)); have n20_ := Aside0.mk ((by rw [hg]; exact Nat.ne_of_gt (blk_lt (g := gb232) (o := .cells #[.slice Ao28 t229.length co28] 30 (0, 0)) (by (with_reducible repeat (first | refine blk_drewN ?_ _ | refine blk_drew ?_ | refine blk_alloc ?_ _)); exact BK232.out)) : gb244 ≠ gb232)); clear HO216; clear HO219; clear HO223; clear HO226; clear HO231; clear HO235; clear HO239; clear HO242; clear BK212; clear BK228; clear BK232; clear HB; have HO216 := n0_; have HO219 := n1_; have HO223 := n2_; have HO226 := n3_; have HO231 := n4_; have HO235 := n5_; have HO239 := n6_; have HO242 := n7_; have BK212 := n8_; have BK228 := n9_; have BK232 := n10_; have HB := n11_; have BK244 := n12_; have GW244 := n13_; have GE244 := n14_; have NB212_244 := n15_; have NB244_212 := n16_; have NB228_244 := n17_; have NB244_228 := n18_; have NB232_244 := n19_; have NB244_232 := n20_; clear n0_ n1_ n2_ n3_ n4_ n5_ n6_ n7_ n8_ n9_ n10_ n11_ n12_ n13_ n14_ n15_ n16_ n17_ n18_ n19_ n20_; clear hb hbox hg; obtain ⟨Ao34, co34, eo34⟩ := Kd.R_slice HO235.out; subst eo34; have hnb35 := NB244_212.out; have hnc35 := NB212_244.out; have hnb36 := NB244_228.out; have hnc36 := NB228_244.out; have hnb37 := NB244_232.out; have hnc37 := NB232_244.out; have hcz38_0 : w33.cell? ⟨gb244, 0, none⟩ = some (.slice none 0 0) := (blk_cell BK244.out 0).trans rfl; have hcz38_1 : w33.cell? ⟨gb244, 1, none⟩ = some (.int .i64 0) := (blk_cell BK244.out 1).trans rfl; have hcz38_2 : w33.cell? ⟨gb244, 2, none⟩ = some (.slice none 0 0) := (blk_cell BK244.out 2).trans rfl; have hcz38_3 : w33.cell? ⟨gb244, 3, none⟩ = some (.slice none 0 0) := (blk_cell BK244.out 3).trans rfl; have hfz38_0 := blk_frozen BK244.out 0; have hfz38_1 := blk_frozen BK244.out 1; have hfz38_2 := blk_frozen BK244.out 2; have hfz38_3 := blk_frozen BK244.out 3; obtain ⟨Ao39, co39, eo39⟩ := Kd.R_slice HO239.out; subst eo39; obtain ⟨Ao40, co40, eo40⟩ := Kd.S_slice HO242.out; subst eo40))
  (try simp only [Act.put, List.setIfInBounds_toArray, List.set_cons_zero, List.set_cons_succ])
  go_cut [40] (fun v40 wc => ∃ (kq : Nat) (x40_10 : Bool), v40 = .bool x40_10 ∧ Aside0 (laws_FnExactStartWatcher.j0 kq t227 t243 x40_10 l0_0 t217 t220 t221 t224 t229 t233 t236 t237 t240 = some r) ∧ Aside0 (kq ≤ k) ∧ Aside0 (Kd.R k66 66 wc w.heap.size (fun k_ => some k_ ≠ ((.slice Ao28 t229.length co28) : Value).ownBlock ∧ some k_ ≠ ((.slice Ao34 t233.length co34) : Value).ownBlock) (.slice Ao20 t217.length co20) t217) ∧ Aside0 (Kd.R (Kd.int .i64) 2 wc w.heap.size (fun k_ => some k_ ≠ ((.slice Ao39 t237.length co39) : Value).ownBlock) (.slice Ao23 t221.length co23) t221) ∧ Aside0 (Kd.S (Kd.slice 2 (Kd.int .i64)) 34 wc w.heap.size (fun k_ => some k_ ≠ ((.slice Ao23 t221.length co23) : Value).ownBlock ∧ some k_ ≠ ((.slice Ao39 t237.length co39) : Value).ownBlock ∧ some k_ ≠ ((.slice Ao40 t240.length co40) : Value).ownBlock) (.slice Ao24 t224.length co24) t224) ∧ Aside0 (Kd.R k66 66 wc w.heap.size (fun k_ => some k_ ≠ ((.slice Ao20 t217.length co20) : Value).ownBlock ∧ some k_ ≠ ((.slice Ao34 t233.length co34) : Value).ownBlock) (.slice Ao28 t229.length co28) t229) ∧ Aside0 (Kd.R k66 66 wc w.heap.size (fun k_ => some k_ ≠ ((.slice Ao20 t217.length co20) : Value).ownBlock ∧ some k_ ≠ ((.slice Ao28 t229.length co28) : Value).ownBlock) (.slice Ao34 t233.length co34) t233) ∧ Aside0 (Kd.R (Kd.int .i64) 2 wc w.heap.size (fun k_ => some k_ ≠ ((.slice Ao23 t221.length co23) : Value).ownBlock) (.slice Ao39 t237.length co39) t237) ∧ Aside0 (Kd.S (Kd.slice 2 (Kd.int .i64)) 34 wc w.heap.size (fun k_ => some k_ ≠ ((.slice Ao23 t221.length co23) : Value).ownBlock ∧ some k_ ≠ ((.slice Ao24 t224.length co24) : Value).ownBlock ∧ some k_ ≠ ((.slice Ao39 t237.length co39) : Value).ownBlock) (.slice Ao40 t240.length co40) t240) ∧ Aside0 (wc.heap[gb212]? = some (.cells #[(.slice A0_0 l0_0.length c0_0)] 24 (0, 0))) ∧ Aside0 (wc.heap[gb228]? = some (.cells #[(.slice Ao20 t217.length co20), .int .i64 t220, (.slice Ao23 t221.length co23), (.slice Ao24 t224.length co24)] 37 (0, 0))) ∧ Aside0 (wc.heap[gb232]? = some (.cells #[(.slice Ao28 t229.length co28)] 30 (0, 0))) ∧ Aside0 (wc.heap[gb244]? = some (.cells #[(.slice Ao34 t233.length co34), .int .i64 t236, (.slice Ao39 t237.length co39), (.slice Ao40 t240.length co40)] 37 (0, 0))) ∧ Aside0 (Below w.heap.size w wc))
  case first =>
   have H := HC11.out
   clear HC11
   replace H := Option.bind_eq_some_iff.mp H
   obtain ⟨t245, A410, H⟩ := H
   replace H : (if t245 = true then (laws_FnExactStartWatcher.j0 k t227 t243 (t243 != t227) l0_0 t217 t220 t221 t224 t229 t233 t236 t237 t240) else (laws_FnExactStartWatcher.j0 k t227 t243 true l0_0 t217 t220 t221 t224 t229 t233 t236 t237 t240)) = some r := H
   have A41 := Aside0.mk A410
   clear A410
   by_cases c42 : t245 = true
   ·subst c42
    have H1 : (laws_FnExactStartWatcher.j0 k t227 t243 (t243 != t227) l0_0 t217 t220 t221 t224 t229 t233 t236 t237 t240) = some r := by rw [if_pos rfl] at H; exact H
    clear H
    have H := H1
    clear H1
    have H' := Aside0.mk H
    clear H
    have hnb43 := NB244_212.out
    have hnc43 := NB212_244.out
    have hnb44 := NB244_228.out
    have hnc44 := NB228_244.out
    have hnb45 := NB244_232.out
    have hnc45 := NB232_244.out
    have hcz46_0 : w33.cell? ⟨gb244, 0, none⟩ = some (.slice none 0 0) := (blk_cell BK244.out 0).trans rfl
    have hcz46_1 : w33.cell? ⟨gb244, 1, none⟩ = some (.int .i64 0) := (blk_cell BK244.out 1).trans rfl
    have hcz46_2 : w33.cell? ⟨gb244, 2, none⟩ = some (.slice none 0 0) := (blk_cell BK244.out 2).trans rfl
    have hcz46_3 : w33.cell? ⟨gb244, 3, none⟩ = some (.slice none 0 0) := (blk_cell BK244.out 3).trans rfl
    have hfz46_0 := blk_frozen BK244.out 0
    have hfz46_1 := blk_frozen BK244.out 1
    have hfz46_2 := blk_frozen BK244.out 2
    have hfz46_3 := blk_frozen BK244.out 3
    have hnb47 := NB228_212.out
    have hnc47 := NB212_228.out
    have hnb48 := NB228_232.out
    have hnc48 := NB232_228.out
    have hcz49_0 : w33.cell? ⟨gb228, 0, none⟩ = some (.slice Ao20 t217.length co20) := (blk_cell BK228.out 0).trans rfl
    have hcz49_1 : w33.cell? ⟨gb228, 1, none⟩ = some (.int .i64 t220) := (blk_cell BK228.out 1).trans rfl
    have hcz49_2 : w33.cell? ⟨gb228, 2, none⟩ = some (.slice Ao23 t221.length co23) := (blk_cell BK228.out 2).trans rfl
    have hcz49_3 : w33.cell? ⟨gb228, 3, none⟩ = some (.slice Ao24 t224.length co24) := (blk_cell BK228.out 3).trans rfl
    have hfz49_0 := blk_frozen BK228.out 0
    have hfz49_1 := blk_frozen BK228.out 1
    have hfz49_2 := blk_frozen BK228.out 2
    have hfz49_3 := blk_frozen BK228.out 3
    go_wp2_with (first | ((with_reducible refine gate_callee (f := 12) rfl ?_); refine goesL_ (some 34) rfl rfl Try.func12 (by kernel_rfl) rfl #[.agg #[.slice Ao34 t233.length co34, .int .i64 t236, .slice Ao39 t237.length co39, .slice Ao40 t240.length co40], .agg #[.slice Ao20 t217.length co20, .int .i64 t220, .slice Ao23 t221.length co23, .slice Ao24 t224.length co24]] rfl (by (try simp only [List.map_toArray, List.map_cons, List.map_nil]); first | done | rfl | (simp only [List.length_drop, List.length_take]; rfl)) ?_; (with_reducible refine (laws_eqWatcher.calls k _ _ t233 t236 _ _ t237 _ _ t240 _ _ t217 t220 _ _ t221 _ _ t224 true _ ?side1 ?side2 ?side3 ?side4 ?side5 ?side6 ?side7 ?side8 ?side9 ?side10 ?side11 ?side12 A41.out).mono ?_); (case side1 => refine (Kd.R_reads' (e := 66) (base := w.heap.size) (ok := fun k_ => (((True ∧ some k_ ≠ (.slice Ao17 t214.length co17 : Value).ownBlock) ∧ some k_ ≠ (.slice Ao20 t217.length co20 : Value).ownBlock) ∧ some k_ ≠ (.slice Ao28 t229.length co28 : Value).ownBlock)) (n := t233.length) (c := co34) ?_).2.2; exact (by (with_reducible repeat (first | apply Kd.R_alloc | apply Kd.R_drewN | apply Kd.R_drew)); exact (Kd.R_mono (Kd.R_far (p := ⟨gb244, 3, none⟩) (Kd.R_far (p := ⟨gb244, 2, none⟩) (Kd.R_far (p := ⟨gb244, 1, none⟩) (Kd.R_far (p := ⟨gb244, 0, none⟩) (Kd.R_types HO235.out BK244.out (by decide)) (fun _ hk => hk.2) (.slice Ao34 t233.length co34)) (fun _ hk => hk.2) (.int .i64 t236)) (fun _ hk => hk.2) (.slice Ao39 t237.length co39)) (fun _ hk => hk.2) (.slice Ao40 t240.length co40)) (fun _ h_ => h_.1)))); (case side2 => exact (Kd.R_reads' HO235.out).2.1); (case side3 => refine (Kd.R_reads' (e := 2) (base := w.heap.size) (ok := fun k_ => (True ∧ some k_ ≠ (.slice Ao23 t221.length co23 : Value).ownBlock)) (n := t237.length) (c := co39) ?_).2.2; exact (by (with_reducible repeat (first | apply Kd.R_alloc | apply Kd.R_drewN | apply Kd.R_drew)); exact (Kd.R_mono (Kd.R_far (p := ⟨gb244, 3, none⟩) (Kd.R_far (p := ⟨gb244, 2, none⟩) (Kd.R_far (p := ⟨gb244, 1, none⟩) (Kd.R_far (p := ⟨gb244, 0, none⟩) (Kd.R_types HO239.out BK244.out (by decide)) (fun _ hk => hk.2) (.slice Ao34 t233.length co34)) (fun _ hk => hk.2) (.int .i64 t236)) (fun _ hk => hk.2) (.slice Ao39 t237.length co39)) (fun _ hk => hk.2) (.slice Ao40 t240.length co40)) (fun _ h_ => h_.1)))); (case side4 => exact (Kd.R_reads' HO239.out).2.1); (case side5 => refine (Kd.S_reads' (e := 34) (base := w.heap.size) (ok := fun k_ => ((some k_ ≠ (.slice Ao39 t237.length co39 : Value).ownBlock ∧ some k_ ≠ (.slice Ao23 t221.length co23 : Value).ownBlock) ∧ some k_ ≠ (.slice Ao24 t224.length co24 : Value).ownBlock)) (n := t240.length) (c := co40) ?_).2.2; exact (by (with_reducible repeat (first | apply Kd.S_alloc | apply Kd.S_drewN | apply Kd.S_drew)); exact (Kd.S_mono (Kd.S_far (p := ⟨gb244, 3, none⟩) (Kd.S_far (p := ⟨gb244, 2, none⟩) (Kd.S_far (p := ⟨gb244, 1, none⟩) (Kd.S_far (p := ⟨gb244, 0, none⟩) (Kd.S_types HO242.out BK244.out (by decide)) (fun _ hk => hk.2) (.slice Ao34 t233.length co34)) (fun _ hk => hk.2) (.int .i64 t236)) (fun _ hk => hk.2) (.slice Ao39 t237.length co39)) (fun _ hk => hk.2) (.slice Ao40 t240.length co40)) (fun _ h_ => h_.1)))); (case side6 => exact (Kd.S_reads' HO242.out).2.1); (case side7 => refine (Kd.R_reads' (e := 66) (base := w.heap.size) (ok := fun k_ => (((True ∧ some k_ ≠ (.slice Ao17 t214.length co17 : Value).ownBlock) ∧ some k_ ≠ (.slice Ao28 t229.length co28 : Value).ownBlock) ∧ some k_ ≠ (.slice Ao34 t233.length co34 : Value).ownBlock)) (n := t217.length) (c := co20) ?_).2.2; exact (by (with_reducible repeat (first | apply Kd.R_alloc | apply Kd.R_drewN | apply Kd.R_drew)); exact (Kd.R_mono (Kd.R_far (p := ⟨gb244, 3, none⟩) (Kd.R_far (p := ⟨gb244, 2, none⟩) (Kd.R_far (p := ⟨gb244, 1, none⟩) (Kd.R_far (p := ⟨gb244, 0, none⟩) (Kd.R_types HO219.out BK244.out (by decide)) (fun _ hk => hk.2) (.slice Ao34 t233.length co34)) (fun _ hk => hk.2) (.int .i64 t236)) (fun _ hk => hk.2) (.slice Ao39 t237.length co39)) (fun _ hk => hk.2) (.slice Ao40 t240.length co40)) (fun _ h_ => h_.1)))); (case side8 => exact (Kd.R_reads' HO219.out).2.1); (case side9 => refine (Kd.R_reads' (e := 2) (base := w.heap.size) (ok := fun k_ => (True ∧ some k_ ≠ (.slice Ao39 t237.length co39 : Value).ownBlock)) (n := t221.length) (c := co23) ?_).2.2; exact (by (with_reducible repeat (first | apply Kd.R_alloc | apply Kd.R_drewN | apply Kd.R_drew)); exact (Kd.R_mono (Kd.R_far (p := ⟨gb244, 3, none⟩) (Kd.R_far (p := ⟨gb244, 2, none⟩) (Kd.R_far (p := ⟨gb244, 1, none⟩) (Kd.R_far (p := ⟨gb244, 0, none⟩) (Kd.R_types HO223.out BK244.out (by decide)) (fun _ hk => hk.2) (.slice Ao34 t233.length co34)) (fun _ hk => hk.2) (.int .i64 t236)) (fun _ hk => hk.2) (.slice Ao39 t237.length co39)) (fun _ hk => hk.2) (.slice Ao40 t240.length co40)) (fun _ h_ => h_.1)))); (case side10 => exact (Kd.R_reads' HO223.out).2.1); (case side11 => refine (Kd.S_reads' (e := 34) (base := w.heap.size) (ok := fun k_ => ((some k_ ≠ (.slice Ao23 t221.length co23 : Value).ownBlock ∧ some k_ ≠ (.slice Ao39 t237.length co39 : Value).ownBlock) ∧ some k_ ≠ (.slice Ao40 t240.length co40 : Value).ownBlock)) (n := t224.length) (c := co24) ?_).2.2; exact (by (with_reducible repeat (first | apply Kd.S_alloc | apply Kd.S_drewN | apply Kd.S_drew)); exact (Kd.S_mono (Kd.S_far (p := ⟨gb244, 3, none⟩) (Kd.S_far (p := ⟨gb244, 2, none⟩) (Kd.S_far (p := ⟨gb244, 1, none⟩) (Kd.S_far (p := ⟨gb244, 0, none⟩) (Kd.S_types HO226.out BK244.out (by decide)) (fun _ hk => hk.2) (.slice Ao34 t233.length co34)) (fun _ hk => hk.2) (.int .i64 t236)) (fun _ hk => hk.2) (.slice Ao39 t237.length co39)) (fun _ hk => hk.2) (.slice Ao40 t240.length co40)) (fun _ h_ => h_.1)))); (case side12 => exact (Kd.S_reads' HO226.out).2.1); rintro e w50 ⟨rfl, hb⟩; refine ⟨_, rfl, ?_⟩; have n0_ := Aside0.mk (Kd.R_below (by (with_reducible repeat (first | apply Kd.R_alloc | apply Kd.R_drewN | apply Kd.R_drew)); exact (Kd.R_mono (Kd.R_far (p := ⟨gb244, 3, none⟩) (Kd.R_far (p := ⟨gb244, 2, none⟩) (Kd.R_far (p := ⟨gb244, 1, none⟩) (Kd.R_far (p := ⟨gb244, 0, none⟩) (Kd.R_types HO216.out BK244.out (by decide)) (fun _ hk => hk.2) (.slice Ao34 t233.length co34)) (fun _ hk => hk.2) (.int .i64 t236)) (fun _ hk => hk.2) (.slice Ao39 t237.length co39)) (fun _ hk => hk.2) (.slice Ao40 t240.length co40)) (fun _ h_ => h_.1))) hb); have n1_ := Aside0.mk (Kd.R_below (by (with_reducible repeat (first | apply Kd.R_alloc | apply Kd.R_drewN | apply Kd.R_drew)); exact (Kd.R_mono (Kd.R_far (p := ⟨gb244, 3, none⟩) (Kd.R_far (p := ⟨gb244, 2, none⟩) (Kd.R_far (p := ⟨gb244, 1, none⟩) (Kd.R_far (p := ⟨gb244, 0, none⟩) (Kd.R_types HO219.out BK244.out (by decide)) (fun _ hk => hk.2) (.slice Ao34 t233.length co34)) (fun _ hk => hk.2) (.int .i64 t236)) (fun _ hk => hk.2) (.slice Ao39 t237.length co39)) (fun _ hk => hk.2) (.slice Ao40 t240.length co40)) (fun _ h_ => h_.1))) hb); have n2_ := Aside0.mk (Kd.R_below (by (with_reducible repeat (first | apply Kd.R_alloc | apply Kd.R_drewN | apply Kd.R_drew)); exact (Kd.R_mono (Kd.R_far (p := ⟨gb244, 3, none⟩) (Kd.R_far (p := ⟨gb244, 2, none⟩) (Kd.R_far (p := ⟨gb244, 1, none⟩) (Kd.R_far (p := ⟨gb244, 0, none⟩) (Kd.R_types HO223.out BK244.out (by decide)) (fun _ hk => hk.2) (.slice Ao34 t233.length co34)) (fun _ hk => hk.2) (.int .i64 t236)) (fun _ hk => hk.2) (.slice Ao39 t237.length co39)) (fun _ hk => hk.2) (.slice Ao40 t240.length co40)) (fun _ h_ => h_.1))) hb); have n3_ := Aside0.mk (Kd.S_below (by (with_reducible repeat (first | apply Kd.S_alloc | apply Kd.S_drewN | apply Kd.S_drew)); exact (Kd.S_mono (Kd.S_far (p := ⟨gb244, 3, none⟩) (Kd.S_far (p := ⟨gb244, 2, none⟩) (Kd.S_far (p := ⟨gb244, 1, none⟩) (Kd.S_far (p := ⟨gb244, 0, none⟩) (Kd.S_types HO226.out BK244.out (by decide)) (fun _ hk => hk.2) (.slice Ao34 t233.length co34)) (fun _ hk => hk.2) (.int .i64 t236)) (fun _ hk => hk.2) (.slice Ao39 t237.length co39)) (fun _ hk => hk.2) (.slice Ao40 t240.length co40)) (fun _ h_ => h_.1))) hb); have n4_ := Aside0.mk (Kd.R_below (by (with_reducible repeat (first | apply Kd.R_alloc | apply Kd.R_drewN | apply Kd.R_drew)); exact (Kd.R_mono (Kd.R_far (p := ⟨gb244, 3, none⟩) (Kd.R_far (p := ⟨gb244, 2, none⟩) (Kd.R_far (p := ⟨gb244, 1, none⟩) (Kd.R_far (p := ⟨gb244, 0, none⟩) (Kd.R_types HO231.out BK244.out (by decide)) (fun _ hk => hk.2) (.slice Ao34 t233.length co34)) (fun _ hk => hk.2) (.int .i64 t236)) (fun _ hk => hk.2) (.slice Ao39 t237.length co39)) (fun _ hk => hk.2) (.slice Ao40 t240.length co40)) (fun _ h_ => h_.1))) hb); have n5_ := Aside0.mk (Kd.R_below (by (with_reducible repeat (first | apply Kd.R_alloc | apply Kd.R_drewN | apply Kd.R_drew)); exact (Kd.R_mono (Kd.R_far (p := ⟨gb244, 3, none⟩) (Kd.R_far (p := ⟨gb244, 2, none⟩) (Kd.R_far (p := ⟨gb244, 1, none⟩) (Kd.R_far (p := ⟨gb244, 0, none⟩) (Kd.R_types HO235.out BK244.out (by decide)) (fun _ hk => hk.2) (.slice Ao34 t233.length co34)) (fun _ hk => hk.2) (.int .i64 t236)) (fun _ hk => hk.2) (.slice Ao39 t237.length co39)) (fun _ hk => hk.2) (.slice Ao40 t240.length co40)) (fun _ h_ => h_.1))) hb); have n6_ := Aside0.mk (Kd.R_below (by (with_reducible repeat (first | apply Kd.R_alloc | apply Kd.R_drewN | apply Kd.R_drew)); exact (Kd.R_mono (Kd.R_far (p := ⟨gb244, 3, none⟩) (Kd.R_far (p := ⟨gb244, 2, none⟩) (Kd.R_far (p := ⟨gb244, 1, none⟩) (Kd.R_far (p := ⟨gb244, 0, none⟩) (Kd.R_types HO239.out BK244.out (by decide)) (fun _ hk => hk.2) (.slice Ao34 t233.length co34)) (fun _ hk => hk.2) (.int .i64 t236)) (fun _ hk => hk.2) (.slice Ao39 t237.length co39)) (fun _ hk => hk.2) (.slice Ao40 t240.length co40)) (fun _ h_ => h_.1))) hb); have n7_ := Aside0.mk (Kd.S_below (by (with_reducible repeat (first | apply Kd.S_alloc | apply Kd.S_drewN | apply Kd.S_drew)); exact (Kd.S_mono (Kd.S_far (p := ⟨gb244, 3, none⟩) (Kd.S_far (p := ⟨gb244, 2, none⟩) (Kd.S_far (p := ⟨gb244, 1, none⟩) (Kd.S_far (p := ⟨gb244, 0, none⟩) (Kd.S_types HO242.out BK244.out (by decide)) (fun _ hk => hk.2) (.slice Ao34 t233.length co34)) (fun _ hk => hk.2) (.int .i64 t236)) (fun _ hk => hk.2) (.slice Ao39 t237.length co39)) (fun _ hk => hk.2) (.slice Ao40 t240.length co40)) (fun _ h_ => h_.1))) hb); have n8_ := Aside0.mk (blk_below (g := gb212) (o := .cells #[.slice A0_0 l0_0.length c0_0] 24 (0, 0)) (by (with_reducible repeat (first | refine blk_drewN ?_ _ | refine blk_drew ?_ | refine blk_alloc ?_ _)); refine blk_far ?_ NB212_244.out _; (with_reducible repeat (first | refine blk_drewN ?_ _ | refine blk_drew ?_ | refine blk_alloc ?_ _)); refine blk_far ?_ NB212_244.out _; (with_reducible repeat (first | refine blk_drewN ?_ _ | refine blk_drew ?_ | refine blk_alloc ?_ _)); refine blk_far ?_ NB212_244.out _; (with_reducible repeat (first | refine blk_drewN ?_ _ | refine blk_drew ?_ | refine blk_alloc ?_ _)); refine blk_far ?_ NB212_244.out _; (with_reducible repeat (first | refine blk_drewN ?_ _ | refine blk_drew ?_ | refine blk_alloc ?_ _)); exact BK212.out) hb); have n9_ := Aside0.mk (blk_below (g := gb228) (o := .cells #[.slice Ao20 t217.length co20, .int .i64 t220, .slice Ao23 t221.length co23, .slice Ao24 t224.length co24] 37 (0, 0)) (by (with_reducible repeat (first | refine blk_drewN ?_ _ | refine blk_drew ?_ | refine blk_alloc ?_ _)); refine blk_far ?_ NB228_244.out _; (with_reducible repeat (first | refine blk_drewN ?_ _ | refine blk_drew ?_ | refine blk_alloc ?_ _)); refine blk_far ?_ NB228_244.out _; (with_reducible repeat (first | refine blk_drewN ?_ _ | refine blk_drew ?_ | refine blk_alloc ?_ _)); refine blk_far ?_ NB228_244.out _; (with_reducible repeat (first | refine blk_drewN ?_ _ | refine blk_drew ?_ | refine blk_alloc ?_ _)); refine blk_far ?_ NB228_244.out _; (with_reducible repeat (first | refine blk_drewN ?_ _ | refine blk_drew ?_ | refine blk_alloc ?_ _)); exact BK228.out) hb); have n10_ := Aside0.mk (blk_below (g := gb232) (o := .cells #[.slice Ao28 t229.length co28] 30 (0, 0)) (by (with_reducible repeat (first | refine blk_drewN ?_ _ | refine blk_drew ?_ | refine blk_alloc ?_ _)); refine blk_far ?_ NB232_244.out _; (with_reducible repeat (first | refine blk_drewN ?_ _ | refine blk_drew ?_ | refine blk_alloc ?_ _)); refine blk_far ?_ NB232_244.out _; (with_reducible repeat (first | refine blk_drewN ?_ _ | refine blk_drew ?_ | refine blk_alloc ?_ _)); refine blk_far ?_ NB232_244.out _; (with_reducible repeat (first | refine blk_drewN ?_ _ | refine blk_drew ?_ | refine blk_alloc ?_ _)); refine blk_far ?_ NB232_244.out _; (with_reducible repeat (first | refine blk_drewN ?_ _ | refine blk_drew ?_ | refine blk_alloc ?_ _)); exact BK232.out) hb); have n11_ := Aside0.mk (blk_below (g := gb244) (o := .cells #[.slice Ao34 t233.length co34, .int .i64 t236, .slice Ao39 t237.length co39, .slice Ao40 t240.length co40] 37 (0, 0)) (by (with_reducible repeat (first | refine blk_drewN ?_ _ | refine blk_drew ?_ | refine blk_alloc ?_ _)); refine blk_put (cs := #[.slice Ao34 t233.length co34, .int .i64 t236, .slice Ao39 t237.length co39, .slice none 0 0]) ?_ 3 _ rfl; (with_reducible repeat (first | refine blk_drewN ?_ _ | refine blk_drew ?_ | refine blk_alloc ?_ _)); refine blk_put (cs := #[.slice Ao34 t233.length co34, .int .i64 t236, .slice none 0 0, .slice none 0 0]) ?_ 2 _ rfl; (with_reducible repeat (first | refine blk_drewN ?_ _ | refine blk_drew ?_ | refine blk_alloc ?_ _)); refine blk_put (cs := #[.slice Ao34 t233.length co34, .int .i64 0, .slice none 0 0, .slice none 0 0]) ?_ 1 _ rfl; (with_reducible repeat (first | refine blk_drewN ?_ _ | refine blk_drew ?_ | refine blk_alloc ?_ _)); refine blk_put (cs := #[.slice none 0 0, .int .i64 0, .slice none 0 0, .slice none 0 0]) ?_ 0 _ rfl; (with_reducible repeat (first | refine blk_drewN ?_ _ | refine blk_drew ?_ | refine blk_alloc ?_ _)); exact BK244.out) hb); have n12_ := Aside0.mk (below_step (by repeat (first | (with_reducible first | exact HB.out | apply below_alloc | apply pw_below_drewN | apply below_drew1 | refine below_set ?_ GE212.out | refine below_set ?_ GE228.out | refine below_set ?_ GE232.out | refine below_set ?_ GE244.out) | exact HB.out)) hb); clear HO216; clear HO219; clear HO223; clear HO226; clear HO231; clear HO235; clear HO239; clear HO242; clear BK212; clear BK228; clear BK232; clear BK244; clear HB; have HO216 := n0_; have HO219 := n1_; have HO223 := n2_; have HO226 := n3_; have HO231 := n4_; have HO235 := n5_; have HO239 := n6_; have HO242 := n7_; have BK212 := n8_; have BK228 := n9_; have BK232 := n10_; have BK244 := n11_; have HB := n12_; clear n0_ n1_ n2_ n3_ n4_ n5_ n6_ n7_ n8_ n9_ n10_ n11_ n12_; (try clear hb); (try clear hb2); (try clear hk); (try clear hi)))
    go_meet
    case rel => exact ⟨_, ((t243 != t227)), (by first | rfl | (simp; done) | (simp [*]; done)), H', ⟨by first | omega | exact Nat.le_refl _⟩, ⟨by (with_reducible repeat (first | apply Kd.R_alloc | apply Kd.R_drewN | apply Kd.R_drew)); exact Kd.R_mono HO219.out (fun _ hk => ⟨hk.1.2, hk.2⟩)⟩, ⟨by (with_reducible repeat (first | apply Kd.R_alloc | apply Kd.R_drewN | apply Kd.R_drew)); exact Kd.R_mono HO223.out (fun _ hk => hk.2)⟩, ⟨by (with_reducible repeat (first | apply Kd.S_alloc | apply Kd.S_drewN | apply Kd.S_drew)); exact Kd.S_mono HO226.out (fun _ hk => ⟨hk.1.1, ⟨hk.1.2, hk.2⟩⟩)⟩, ⟨by (with_reducible repeat (first | apply Kd.R_alloc | apply Kd.R_drewN | apply Kd.R_drew)); exact Kd.R_mono HO231.out (fun _ hk => ⟨hk.1.2, hk.2⟩)⟩, ⟨by (with_reducible repeat (first | apply Kd.R_alloc | apply Kd.R_drewN | apply Kd.R_drew)); exact Kd.R_mono HO235.out (fun _ hk => ⟨hk.1.2, hk.2⟩)⟩, ⟨by (with_reducible repeat (first | apply Kd.R_alloc | apply Kd.R_drewN | apply Kd.R_drew)); exact Kd.R_mono HO239.out (fun _ hk => hk.2)⟩, ⟨by (with_reducible repeat (first | apply Kd.S_alloc | apply Kd.S_drewN | apply Kd.S_drew)); exact Kd.S_mono HO242.out (fun _ hk => ⟨hk.1.2, ⟨hk.2, hk.1.1⟩⟩)⟩, ⟨by (with_reducible repeat (first | refine blk_drewN ?_ _ | refine blk_drew ?_ | refine blk_alloc ?_ _)); exact BK212.out⟩, ⟨by (with_reducible repeat (first | refine blk_drewN ?_ _ | refine blk_drew ?_ | refine blk_alloc ?_ _)); exact BK228.out⟩, ⟨by (with_reducible repeat (first | refine blk_drewN ?_ _ | refine blk_drew ?_ | refine blk_alloc ?_ _)); exact BK232.out⟩, ⟨by (with_reducible repeat (first | refine blk_drewN ?_ _ | refine blk_drew ?_ | refine blk_alloc ?_ _)); exact BK244.out⟩, ⟨by repeat (first | (with_reducible first | exact HB.out | apply below_alloc | apply pw_below_drewN | apply below_drew1 | refine below_set ?_ GE212.out | refine below_set ?_ GE228.out | refine below_set ?_ GE232.out | refine below_set ?_ GE244.out) | exact HB.out)⟩⟩
   ·replace c42 := Bool.eq_false_iff.mpr c42
    subst c42
    have H1 : (laws_FnExactStartWatcher.j0 k t227 t243 true l0_0 t217 t220 t221 t224 t229 t233 t236 t237 t240) = some r := by rw [if_neg (show ¬ (false = true) by decide)] at H; exact H
    clear H
    have H := H1
    clear H1
    have H' := Aside0.mk H
    clear H
    have hnb51 := NB244_212.out
    have hnc51 := NB212_244.out
    have hnb52 := NB244_228.out
    have hnc52 := NB228_244.out
    have hnb53 := NB244_232.out
    have hnc53 := NB232_244.out
    have hcz54_0 : w33.cell? ⟨gb244, 0, none⟩ = some (.slice none 0 0) := (blk_cell BK244.out 0).trans rfl
    have hcz54_1 : w33.cell? ⟨gb244, 1, none⟩ = some (.int .i64 0) := (blk_cell BK244.out 1).trans rfl
    have hcz54_2 : w33.cell? ⟨gb244, 2, none⟩ = some (.slice none 0 0) := (blk_cell BK244.out 2).trans rfl
    have hcz54_3 : w33.cell? ⟨gb244, 3, none⟩ = some (.slice none 0 0) := (blk_cell BK244.out 3).trans rfl
    have hfz54_0 := blk_frozen BK244.out 0
    have hfz54_1 := blk_frozen BK244.out 1
    have hfz54_2 := blk_frozen BK244.out 2
    have hfz54_3 := blk_frozen BK244.out 3
    have hnb55 := NB228_212.out
    have hnc55 := NB212_228.out
    have hnb56 := NB228_232.out
    have hnc56 := NB232_228.out
    have hcz57_0 : w33.cell? ⟨gb228, 0, none⟩ = some (.slice Ao20 t217.length co20) := (blk_cell BK228.out 0).trans rfl
    have hcz57_1 : w33.cell? ⟨gb228, 1, none⟩ = some (.int .i64 t220) := (blk_cell BK228.out 1).trans rfl
    have hcz57_2 : w33.cell? ⟨gb228, 2, none⟩ = some (.slice Ao23 t221.length co23) := (blk_cell BK228.out 2).trans rfl
    have hcz57_3 : w33.cell? ⟨gb228, 3, none⟩ = some (.slice Ao24 t224.length co24) := (blk_cell BK228.out 3).trans rfl
    have hfz57_0 := blk_frozen BK228.out 0
    have hfz57_1 := blk_frozen BK228.out 1
    have hfz57_2 := blk_frozen BK228.out 2
    have hfz57_3 := blk_frozen BK228.out 3
    go_wp2_with (first | ((with_reducible refine gate_callee (f := 12) rfl ?_); refine goesL_ (some 34) rfl rfl Try.func12 (by kernel_rfl) rfl #[.agg #[.slice Ao34 t233.length co34, .int .i64 t236, .slice Ao39 t237.length co39, .slice Ao40 t240.length co40], .agg #[.slice Ao20 t217.length co20, .int .i64 t220, .slice Ao23 t221.length co23, .slice Ao24 t224.length co24]] rfl (by (try simp only [List.map_toArray, List.map_cons, List.map_nil]); first | done | rfl | (simp only [List.length_drop, List.length_take]; rfl)) ?_; (with_reducible refine (laws_eqWatcher.calls k _ _ t233 t236 _ _ t237 _ _ t240 _ _ t217 t220 _ _ t221 _ _ t224 false _ ?side1 ?side2 ?side3 ?side4 ?side5 ?side6 ?side7 ?side8 ?side9 ?side10 ?side11 ?side12 A41.out).mono ?_); (case side1 => refine (Kd.R_reads' (e := 66) (base := w.heap.size) (ok := fun k_ => (((True ∧ some k_ ≠ (.slice Ao17 t214.length co17 : Value).ownBlock) ∧ some k_ ≠ (.slice Ao20 t217.length co20 : Value).ownBlock) ∧ some k_ ≠ (.slice Ao28 t229.length co28 : Value).ownBlock)) (n := t233.length) (c := co34) ?_).2.2; exact (by (with_reducible repeat (first | apply Kd.R_alloc | apply Kd.R_drewN | apply Kd.R_drew)); exact (Kd.R_mono (Kd.R_far (p := ⟨gb244, 3, none⟩) (Kd.R_far (p := ⟨gb244, 2, none⟩) (Kd.R_far (p := ⟨gb244, 1, none⟩) (Kd.R_far (p := ⟨gb244, 0, none⟩) (Kd.R_types HO235.out BK244.out (by decide)) (fun _ hk => hk.2) (.slice Ao34 t233.length co34)) (fun _ hk => hk.2) (.int .i64 t236)) (fun _ hk => hk.2) (.slice Ao39 t237.length co39)) (fun _ hk => hk.2) (.slice Ao40 t240.length co40)) (fun _ h_ => h_.1)))); (case side2 => exact (Kd.R_reads' HO235.out).2.1); (case side3 => refine (Kd.R_reads' (e := 2) (base := w.heap.size) (ok := fun k_ => (True ∧ some k_ ≠ (.slice Ao23 t221.length co23 : Value).ownBlock)) (n := t237.length) (c := co39) ?_).2.2; exact (by (with_reducible repeat (first | apply Kd.R_alloc | apply Kd.R_drewN | apply Kd.R_drew)); exact (Kd.R_mono (Kd.R_far (p := ⟨gb244, 3, none⟩) (Kd.R_far (p := ⟨gb244, 2, none⟩) (Kd.R_far (p := ⟨gb244, 1, none⟩) (Kd.R_far (p := ⟨gb244, 0, none⟩) (Kd.R_types HO239.out BK244.out (by decide)) (fun _ hk => hk.2) (.slice Ao34 t233.length co34)) (fun _ hk => hk.2) (.int .i64 t236)) (fun _ hk => hk.2) (.slice Ao39 t237.length co39)) (fun _ hk => hk.2) (.slice Ao40 t240.length co40)) (fun _ h_ => h_.1)))); (case side4 => exact (Kd.R_reads' HO239.out).2.1); (case side5 => refine (Kd.S_reads' (e := 34) (base := w.heap.size) (ok := fun k_ => ((some k_ ≠ (.slice Ao39 t237.length co39 : Value).ownBlock ∧ some k_ ≠ (.slice Ao23 t221.length co23 : Value).ownBlock) ∧ some k_ ≠ (.slice Ao24 t224.length co24 : Value).ownBlock)) (n := t240.length) (c := co40) ?_).2.2; exact (by (with_reducible repeat (first | apply Kd.S_alloc | apply Kd.S_drewN | apply Kd.S_drew)); exact (Kd.S_mono (Kd.S_far (p := ⟨gb244, 3, none⟩) (Kd.S_far (p := ⟨gb244, 2, none⟩) (Kd.S_far (p := ⟨gb244, 1, none⟩) (Kd.S_far (p := ⟨gb244, 0, none⟩) (Kd.S_types HO242.out BK244.out (by decide)) (fun _ hk => hk.2) (.slice Ao34 t233.length co34)) (fun _ hk => hk.2) (.int .i64 t236)) (fun _ hk => hk.2) (.slice Ao39 t237.length co39)) (fun _ hk => hk.2) (.slice Ao40 t240.length co40)) (fun _ h_ => h_.1)))); (case side6 => exact (Kd.S_reads' HO242.out).2.1); (case side7 => refine (Kd.R_reads' (e := 66) (base := w.heap.size) (ok := fun k_ => (((True ∧ some k_ ≠ (.slice Ao17 t214.length co17 : Value).ownBlock) ∧ some k_ ≠ (.slice Ao28 t229.length co28 : Value).ownBlock) ∧ some k_ ≠ (.slice Ao34 t233.length co34 : Value).ownBlock)) (n := t217.length) (c := co20) ?_).2.2; exact (by (with_reducible repeat (first | apply Kd.R_alloc | apply Kd.R_drewN | apply Kd.R_drew)); exact (Kd.R_mono (Kd.R_far (p := ⟨gb244, 3, none⟩) (Kd.R_far (p := ⟨gb244, 2, none⟩) (Kd.R_far (p := ⟨gb244, 1, none⟩) (Kd.R_far (p := ⟨gb244, 0, none⟩) (Kd.R_types HO219.out BK244.out (by decide)) (fun _ hk => hk.2) (.slice Ao34 t233.length co34)) (fun _ hk => hk.2) (.int .i64 t236)) (fun _ hk => hk.2) (.slice Ao39 t237.length co39)) (fun _ hk => hk.2) (.slice Ao40 t240.length co40)) (fun _ h_ => h_.1)))); (case side8 => exact (Kd.R_reads' HO219.out).2.1); (case side9 => refine (Kd.R_reads' (e := 2) (base := w.heap.size) (ok := fun k_ => (True ∧ some k_ ≠ (.slice Ao39 t237.length co39 : Value).ownBlock)) (n := t221.length) (c := co23) ?_).2.2; exact (by (with_reducible repeat (first | apply Kd.R_alloc | apply Kd.R_drewN | apply Kd.R_drew)); exact (Kd.R_mono (Kd.R_far (p := ⟨gb244, 3, none⟩) (Kd.R_far (p := ⟨gb244, 2, none⟩) (Kd.R_far (p := ⟨gb244, 1, none⟩) (Kd.R_far (p := ⟨gb244, 0, none⟩) (Kd.R_types HO223.out BK244.out (by decide)) (fun _ hk => hk.2) (.slice Ao34 t233.length co34)) (fun _ hk => hk.2) (.int .i64 t236)) (fun _ hk => hk.2) (.slice Ao39 t237.length co39)) (fun _ hk => hk.2) (.slice Ao40 t240.length co40)) (fun _ h_ => h_.1)))); (case side10 => exact (Kd.R_reads' HO223.out).2.1); (case side11 => refine (Kd.S_reads' (e := 34) (base := w.heap.size) (ok := fun k_ => ((some k_ ≠ (.slice Ao23 t221.length co23 : Value).ownBlock ∧ some k_ ≠ (.slice Ao39 t237.length co39 : Value).ownBlock) ∧ some k_ ≠ (.slice Ao40 t240.length co40 : Value).ownBlock)) (n := t224.length) (c := co24) ?_).2.2; exact (by (with_reducible repeat (first | apply Kd.S_alloc | apply Kd.S_drewN | apply Kd.S_drew)); exact (Kd.S_mono (Kd.S_far (p := ⟨gb244, 3, none⟩) (Kd.S_far (p := ⟨gb244, 2, none⟩) (Kd.S_far (p := ⟨gb244, 1, none⟩) (Kd.S_far (p := ⟨gb244, 0, none⟩) (Kd.S_types HO226.out BK244.out (by decide)) (fun _ hk => hk.2) (.slice Ao34 t233.length co34)) (fun _ hk => hk.2) (.int .i64 t236)) (fun _ hk => hk.2) (.slice Ao39 t237.length co39)) (fun _ hk => hk.2) (.slice Ao40 t240.length co40)) (fun _ h_ => h_.1)))); (case side12 => exact (Kd.S_reads' HO226.out).2.1); rintro e w58 ⟨rfl, hb⟩; refine ⟨_, rfl, ?_⟩; have n0_ := Aside0.mk (Kd.R_below (by (with_reducible repeat (first | apply Kd.R_alloc | apply Kd.R_drewN | apply Kd.R_drew)); exact (Kd.R_mono (Kd.R_far (p := ⟨gb244, 3, none⟩) (Kd.R_far (p := ⟨gb244, 2, none⟩) (Kd.R_far (p := ⟨gb244, 1, none⟩) (Kd.R_far (p := ⟨gb244, 0, none⟩) (Kd.R_types HO216.out BK244.out (by decide)) (fun _ hk => hk.2) (.slice Ao34 t233.length co34)) (fun _ hk => hk.2) (.int .i64 t236)) (fun _ hk => hk.2) (.slice Ao39 t237.length co39)) (fun _ hk => hk.2) (.slice Ao40 t240.length co40)) (fun _ h_ => h_.1))) hb); have n1_ := Aside0.mk (Kd.R_below (by (with_reducible repeat (first | apply Kd.R_alloc | apply Kd.R_drewN | apply Kd.R_drew)); exact (Kd.R_mono (Kd.R_far (p := ⟨gb244, 3, none⟩) (Kd.R_far (p := ⟨gb244, 2, none⟩) (Kd.R_far (p := ⟨gb244, 1, none⟩) (Kd.R_far (p := ⟨gb244, 0, none⟩) (Kd.R_types HO219.out BK244.out (by decide)) (fun _ hk => hk.2) (.slice Ao34 t233.length co34)) (fun _ hk => hk.2) (.int .i64 t236)) (fun _ hk => hk.2) (.slice Ao39 t237.length co39)) (fun _ hk => hk.2) (.slice Ao40 t240.length co40)) (fun _ h_ => h_.1))) hb); have n2_ := Aside0.mk (Kd.R_below (by (with_reducible repeat (first | apply Kd.R_alloc | apply Kd.R_drewN | apply Kd.R_drew)); exact (Kd.R_mono (Kd.R_far (p := ⟨gb244, 3, none⟩) (Kd.R_far (p := ⟨gb244, 2, none⟩) (Kd.R_far (p := ⟨gb244, 1, none⟩) (Kd.R_far (p := ⟨gb244, 0, none⟩) (Kd.R_types HO223.out BK244.out (by decide)) (fun _ hk => hk.2) (.slice Ao34 t233.length co34)) (fun _ hk => hk.2) (.int .i64 t236)) (fun _ hk => hk.2) (.slice Ao39 t237.length co39)) (fun _ hk => hk.2) (.slice Ao40 t240.length co40)) (fun _ h_ => h_.1))) hb); have n3_ := Aside0.mk (Kd.S_below (by (with_reducible repeat (first | apply Kd.S_alloc | apply Kd.S_drewN | apply Kd.S_drew)); exact (Kd.S_mono (Kd.S_far (p := ⟨gb244, 3, none⟩) (Kd.S_far (p := ⟨gb244, 2, none⟩) (Kd.S_far (p := ⟨gb244, 1, none⟩) (Kd.S_far (p := ⟨gb244, 0, none⟩) (Kd.S_types HO226.out BK244.out (by decide)) (fun _ hk => hk.2) (.slice Ao34 t233.length co34)) (fun _ hk => hk.2) (.int .i64 t236)) (fun _ hk => hk.2) (.slice Ao39 t237.length co39)) (fun _ hk => hk.2) (.slice Ao40 t240.length co40)) (fun _ h_ => h_.1))) hb); have n4_ := Aside0.mk (Kd.R_below (by (with_reducible repeat (first | apply Kd.R_alloc | apply Kd.R_drewN | apply Kd.R_drew)); exact (Kd.R_mono (Kd.R_far (p := ⟨gb244, 3, none⟩) (Kd.R_far (p := ⟨gb244, 2, none⟩) (Kd.R_far (p := ⟨gb244, 1, none⟩) (Kd.R_far (p := ⟨gb244, 0, none⟩) (Kd.R_types HO231.out BK244.out (by decide)) (fun _ hk => hk.2) (.slice Ao34 t233.length co34)) (fun _ hk => hk.2) (.int .i64 t236)) (fun _ hk => hk.2) (.slice Ao39 t237.length co39)) (fun _ hk => hk.2) (.slice Ao40 t240.length co40)) (fun _ h_ => h_.1))) hb); have n5_ := Aside0.mk (Kd.R_below (by (with_reducible repeat (first | apply Kd.R_alloc | apply Kd.R_drewN | apply Kd.R_drew)); exact (Kd.R_mono (Kd.R_far (p := ⟨gb244, 3, none⟩) (Kd.R_far (p := ⟨gb244, 2, none⟩) (Kd.R_far (p := ⟨gb244, 1, none⟩) (Kd.R_far (p := ⟨gb244, 0, none⟩) (Kd.R_types HO235.out BK244.out (by decide)) (fun _ hk => hk.2) (.slice Ao34 t233.length co34)) (fun _ hk => hk.2) (.int .i64 t236)) (fun _ hk => hk.2) (.slice Ao39 t237.length co39)) (fun _ hk => hk.2) (.slice Ao40 t240.length co40)) (fun _ h_ => h_.1))) hb); have n6_ := Aside0.mk (Kd.R_below (by (with_reducible repeat (first | apply Kd.R_alloc | apply Kd.R_drewN | apply Kd.R_drew)); exact (Kd.R_mono (Kd.R_far (p := ⟨gb244, 3, none⟩) (Kd.R_far (p := ⟨gb244, 2, none⟩) (Kd.R_far (p := ⟨gb244, 1, none⟩) (Kd.R_far (p := ⟨gb244, 0, none⟩) (Kd.R_types HO239.out BK244.out (by decide)) (fun _ hk => hk.2) (.slice Ao34 t233.length co34)) (fun _ hk => hk.2) (.int .i64 t236)) (fun _ hk => hk.2) (.slice Ao39 t237.length co39)) (fun _ hk => hk.2) (.slice Ao40 t240.length co40)) (fun _ h_ => h_.1))) hb); have n7_ := Aside0.mk (Kd.S_below (by (with_reducible repeat (first | apply Kd.S_alloc | apply Kd.S_drewN | apply Kd.S_drew)); exact (Kd.S_mono (Kd.S_far (p := ⟨gb244, 3, none⟩) (Kd.S_far (p := ⟨gb244, 2, none⟩) (Kd.S_far (p := ⟨gb244, 1, none⟩) (Kd.S_far (p := ⟨gb244, 0, none⟩) (Kd.S_types HO242.out BK244.out (by decide)) (fun _ hk => hk.2) (.slice Ao34 t233.length co34)) (fun _ hk => hk.2) (.int .i64 t236)) (fun _ hk => hk.2) (.slice Ao39 t237.length co39)) (fun _ hk => hk.2) (.slice Ao40 t240.length co40)) (fun _ h_ => h_.1))) hb); have n8_ := Aside0.mk (blk_below (g := gb212) (o := .cells #[.slice A0_0 l0_0.length c0_0] 24 (0, 0)) (by (with_reducible repeat (first | refine blk_drewN ?_ _ | refine blk_drew ?_ | refine blk_alloc ?_ _)); refine blk_far ?_ NB212_244.out _; (with_reducible repeat (first | refine blk_drewN ?_ _ | refine blk_drew ?_ | refine blk_alloc ?_ _)); refine blk_far ?_ NB212_244.out _; (with_reducible repeat (first | refine blk_drewN ?_ _ | refine blk_drew ?_ | refine blk_alloc ?_ _)); refine blk_far ?_ NB212_244.out _; (with_reducible repeat (first | refine blk_drewN ?_ _ | refine blk_drew ?_ | refine blk_alloc ?_ _)); refine blk_far ?_ NB212_244.out _; (with_reducible repeat (first | refine blk_drewN ?_ _ | refine blk_drew ?_ | refine blk_alloc ?_ _)); exact BK212.out) hb); have n9_ := Aside0.mk (blk_below (g := gb228) (o := .cells #[.slice Ao20 t217.length co20, .int .i64 t220, .slice Ao23 t221.length co23, .slice Ao24 t224.length co24] 37 (0, 0)) (by (with_reducible repeat (first | refine blk_drewN ?_ _ | refine blk_drew ?_ | refine blk_alloc ?_ _)); refine blk_far ?_ NB228_244.out _; (with_reducible repeat (first | refine blk_drewN ?_ _ | refine blk_drew ?_ | refine blk_alloc ?_ _)); refine blk_far ?_ NB228_244.out _; (with_reducible repeat (first | refine blk_drewN ?_ _ | refine blk_drew ?_ | refine blk_alloc ?_ _)); refine blk_far ?_ NB228_244.out _; (with_reducible repeat (first | refine blk_drewN ?_ _ | refine blk_drew ?_ | refine blk_alloc ?_ _)); refine blk_far ?_ NB228_244.out _; (with_reducible repeat (first | refine blk_drewN ?_ _ | refine blk_drew ?_ | refine blk_alloc ?_ _)); exact BK228.out) hb); have n10_ := Aside0.mk (blk_below (g := gb232) (o := .cells #[.slice Ao28 t229.length co28] 30 (0, 0)) (by (with_reducible repeat (first | refine blk_drewN ?_ _ | refine blk_drew ?_ | refine blk_alloc ?_ _)); refine blk_far ?_ NB232_244.out _; (with_reducible repeat (first | refine blk_drewN ?_ _ | refine blk_drew ?_ | refine blk_alloc ?_ _)); refine blk_far ?_ NB232_244.out _; (with_reducible repeat (first | refine blk_drewN ?_ _ | refine blk_drew ?_ | refine blk_alloc ?_ _)); refine blk_far ?_ NB232_244.out _; (with_reducible repeat (first | refine blk_drewN ?_ _ | refine blk_drew ?_ | refine blk_alloc ?_ _)); refine blk_far ?_ NB232_244.out _; (with_reducible repeat (first | refine blk_drewN ?_ _ | refine blk_drew ?_ | refine blk_alloc ?_ _)); exact BK232.out) hb); have n11_ := Aside0.mk (blk_below (g := gb244) (o := .cells #[.slice Ao34 t233.length co34, .int .i64 t236, .slice Ao39 t237.length co39, .slice Ao40 t240.length co40] 37 (0, 0)) (by (with_reducible repeat (first | refine blk_drewN ?_ _ | refine blk_drew ?_ | refine blk_alloc ?_ _)); refine blk_put (cs := #[.slice Ao34 t233.length co34, .int .i64 t236, .slice Ao39 t237.length co39, .slice none 0 0]) ?_ 3 _ rfl; (with_reducible repeat (first | refine blk_drewN ?_ _ | refine blk_drew ?_ | refine blk_alloc ?_ _)); refine blk_put (cs := #[.slice Ao34 t233.length co34, .int .i64 t236, .slice none 0 0, .slice none 0 0]) ?_ 2 _ rfl; (with_reducible repeat (first | refine blk_drewN ?_ _ | refine blk_drew ?_ | refine blk_alloc ?_ _)); refine blk_put (cs := #[.slice Ao34 t233.length co34, .int .i64 0, .slice none 0 0, .slice none 0 0]) ?_ 1 _ rfl; (with_reducible repeat (first | refine blk_drewN ?_ _ | refine blk_drew ?_ | refine blk_alloc ?_ _)); refine blk_put (cs := #[.slice none 0 0, .int .i64 0, .slice none 0 0, .slice none 0 0]) ?_ 0 _ rfl; (with_reducible repeat (first | refine blk_drewN ?_ _ | refine blk_drew ?_ | refine blk_alloc ?_ _)); exact BK244.out) hb); have n12_ := Aside0.mk (below_step (by repeat (first | (with_reducible first | exact HB.out | apply below_alloc | apply pw_below_drewN | apply below_drew1 | refine below_set ?_ GE212.out | refine below_set ?_ GE228.out | refine below_set ?_ GE232.out | refine below_set ?_ GE244.out) | exact HB.out)) hb); clear HO216; clear HO219; clear HO223; clear HO226; clear HO231; clear HO235; clear HO239; clear HO242; clear BK212; clear BK228; clear BK232; clear BK244; clear HB; have HO216 := n0_; have HO219 := n1_; have HO223 := n2_; have HO226 := n3_; have HO231 := n4_; have HO235 := n5_; have HO239 := n6_; have HO242 := n7_; have BK212 := n8_; have BK228 := n9_; have BK232 := n10_; have BK244 := n11_; have HB := n12_; clear n0_ n1_ n2_ n3_ n4_ n5_ n6_ n7_ n8_ n9_ n10_ n11_ n12_; (try clear hb); (try clear hb2); (try clear hk); (try clear hi)))
    go_meet
    case rel => exact ⟨_, (true), (by first | rfl | (simp; done) | (simp [*]; done)), H', ⟨by first | omega | exact Nat.le_refl _⟩, ⟨by (with_reducible repeat (first | apply Kd.R_alloc | apply Kd.R_drewN | apply Kd.R_drew)); exact Kd.R_mono HO219.out (fun _ hk => ⟨hk.1.2, hk.2⟩)⟩, ⟨by (with_reducible repeat (first | apply Kd.R_alloc | apply Kd.R_drewN | apply Kd.R_drew)); exact Kd.R_mono HO223.out (fun _ hk => hk.2)⟩, ⟨by (with_reducible repeat (first | apply Kd.S_alloc | apply Kd.S_drewN | apply Kd.S_drew)); exact Kd.S_mono HO226.out (fun _ hk => ⟨hk.1.1, ⟨hk.1.2, hk.2⟩⟩)⟩, ⟨by (with_reducible repeat (first | apply Kd.R_alloc | apply Kd.R_drewN | apply Kd.R_drew)); exact Kd.R_mono HO231.out (fun _ hk => ⟨hk.1.2, hk.2⟩)⟩, ⟨by (with_reducible repeat (first | apply Kd.R_alloc | apply Kd.R_drewN | apply Kd.R_drew)); exact Kd.R_mono HO235.out (fun _ hk => ⟨hk.1.2, hk.2⟩)⟩, ⟨by (with_reducible repeat (first | apply Kd.R_alloc | apply Kd.R_drewN | apply Kd.R_drew)); exact Kd.R_mono HO239.out (fun _ hk => hk.2)⟩, ⟨by (with_reducible repeat (first | apply Kd.S_alloc | apply Kd.S_drewN | apply Kd.S_drew)); exact Kd.S_mono HO242.out (fun _ hk => ⟨hk.1.2, ⟨hk.2, hk.1.1⟩⟩)⟩, ⟨by (with_reducible repeat (first | refine blk_drewN ?_ _ | refine blk_drew ?_ | refine blk_alloc ?_ _)); exact BK212.out⟩, ⟨by (with_reducible repeat (first | refine blk_drewN ?_ _ | refine blk_drew ?_ | refine blk_alloc ?_ _)); exact BK228.out⟩, ⟨by (with_reducible repeat (first | refine blk_drewN ?_ _ | refine blk_drew ?_ | refine blk_alloc ?_ _)); exact BK232.out⟩, ⟨by (with_reducible repeat (first | refine blk_drewN ?_ _ | refine blk_drew ?_ | refine blk_alloc ?_ _)); exact BK244.out⟩, ⟨by repeat (first | (with_reducible first | exact HB.out | apply below_alloc | apply pw_below_drewN | apply below_drew1 | refine below_set ?_ GE212.out | refine below_set ?_ GE228.out | refine below_set ?_ GE232.out | refine below_set ?_ GE244.out) | exact HB.out)⟩⟩
  case rest =>
   clear HC11
   try clear c1
   try clear c2
   try clear p2
   try clear c3
   try clear c3b0
   try clear c4
   try clear c5
   try clear c7
   try clear c10
   try clear c11
   try clear c12
   try clear c21
   try clear c29
   try clear c30
   try clear c35
   try clear c36
   try clear c37
   try clear c42
   try clear c43
   try clear c44
   try clear c45
   try clear c47
   try clear c48
   try clear c51
   try clear c52
   try clear c53
   try clear c55
   try clear c56
   try clear hcz13_0
   try clear hcz15_0
   try clear hcz22_0
   try clear hcz22_1
   try clear hcz22_2
   try clear hcz22_3
   try clear hcz25_0
   try clear hcz31_0
   try clear hcz38_0
   try clear hcz38_1
   try clear hcz38_2
   try clear hcz38_3
   try clear hcz46_0
   try clear hcz46_1
   try clear hcz46_2
   try clear hcz46_3
   try clear hcz49_0
   try clear hcz49_1
   try clear hcz49_2
   try clear hcz49_3
   try clear hcz54_0
   try clear hcz54_1
   try clear hcz54_2
   try clear hcz54_3
   try clear hcz57_0
   try clear hcz57_1
   try clear hcz57_2
   try clear hcz57_3
   try clear hcz5_0
   try clear hfz13_0
   try clear hfz15_0
   try clear hfz22_0
   try clear hfz22_1
   try clear hfz22_2
   try clear hfz22_3
   try clear hfz25_0
   try clear hfz31_0
   try clear hfz38_0
   try clear hfz38_1
   try clear hfz38_2
   try clear hfz38_3
   try clear hfz46_0
   try clear hfz46_1
   try clear hfz46_2
   try clear hfz46_3
   try clear hfz49_0
   try clear hfz49_1
   try clear hfz49_2
   try clear hfz49_3
   try clear hfz54_0
   try clear hfz54_1
   try clear hfz54_2
   try clear hfz54_3
   try clear hfz57_0
   try clear hfz57_1
   try clear hfz57_2
   try clear hfz57_3
   try clear hfz5_0
   obtain ⟨kq, x40_10, rfl, HA, HJ10, HO_229000, HO_229002, HO_229003, HO_233000, HO_245000, HO_245002, HO_245003, BK212, BK228, BK232, BK244, HB⟩ := hcut
   cases kq with
   | zero => exact absurd HA.out (by simp [laws_FnExactStartWatcher.j0])
   | succ kj10 =>
    have H := HA.out
    clear HA
    simp only [laws_FnExactStartWatcher.j0] at H
    by_cases c59 : x40_10 = true
    ·subst c59
     have H1 : (some false) = some r := by rw [if_pos rfl] at H; exact H
     clear H
     have H := H1
     clear H1
     obtain rfl := Option.some.inj H
     go_wp2
     go_ret
     exact ⟨by first | rfl | (simp [errW_none, errW_some] <;> rfl) | (simp [*, errW_none, errW_some] <;> rfl), by repeat (first | (with_reducible first | exact HB.out | apply below_alloc | apply pw_below_drewN | apply below_drew1 | refine below_set ?_ GE212.out | refine below_set ?_ GE228.out | refine below_set ?_ GE232.out | refine below_set ?_ GE244.out) | exact HB.out)⟩
    ·replace c59 := Bool.eq_false_iff.mpr c59
     subst c59
     have H1 : ((laws_toQuery.f kj10 l0_0).bind fun t246 => ((laws_eqQuery.f kj10 t229 t246).bind fun t249 => (if t249 = true then ((laws_markQuery.f kj10 t229 1).bind fun bt250 => (if bt250.1 < 0 then (laws_FnExactStartWatcher.j1 kj10 t227 true l0_0 t217 t220 t221 t224 t233 t236 t237 t240) else ((laws_eqWatcher.f kj10 t233 t236 t237 t240 t217 t220 t221 t224).bind fun t252 => (if t252 = true then (laws_FnExactStartWatcher.j1 kj10 t227 (t243 != t227) l0_0 t217 t220 t221 t224 t233 t236 t237 t240) else (laws_FnExactStartWatcher.j1 kj10 t227 true l0_0 t217 t220 t221 t224 t233 t236 t237 t240))))) else (some false)))) = some r := by rw [if_neg (show ¬ (false = true) by decide)] at H; exact H
     clear H
     have H := H1
     clear H1
     replace H := Option.bind_eq_some_iff.mp H
     obtain ⟨t246, A600, H⟩ := H
     replace H : ((laws_eqQuery.f kj10 t229 t246).bind fun t249 => (if t249 = true then ((laws_markQuery.f kj10 t229 1).bind fun bt250 => (if bt250.1 < 0 then (laws_FnExactStartWatcher.j1 kj10 t227 true l0_0 t217 t220 t221 t224 t233 t236 t237 t240) else ((laws_eqWatcher.f kj10 t233 t236 t237 t240 t217 t220 t221 t224).bind fun t252 => (if t252 = true then (laws_FnExactStartWatcher.j1 kj10 t227 (t243 != t227) l0_0 t217 t220 t221 t224 t233 t236 t237 t240) else (laws_FnExactStartWatcher.j1 kj10 t227 true l0_0 t217 t220 t221 t224 t233 t236 t237 t240))))) else (some false))) = some r := H
     have A60 := Aside0.mk A600
     clear A600
     replace H := Option.bind_eq_some_iff.mp H
     obtain ⟨t249, A610, H⟩ := H
     replace H : (if t249 = true then ((laws_markQuery.f kj10 t229 1).bind fun bt250 => (if bt250.1 < 0 then (laws_FnExactStartWatcher.j1 kj10 t227 true l0_0 t217 t220 t221 t224 t233 t236 t237 t240) else ((laws_eqWatcher.f kj10 t233 t236 t237 t240 t217 t220 t221 t224).bind fun t252 => (if t252 = true then (laws_FnExactStartWatcher.j1 kj10 t227 (t243 != t227) l0_0 t217 t220 t221 t224 t233 t236 t237 t240) else (laws_FnExactStartWatcher.j1 kj10 t227 true l0_0 t217 t220 t221 t224 t233 t236 t237 t240))))) else (some false)) = some r := H
     have A61 := Aside0.mk A610
     clear A610
     by_cases c62 : t249 = true
     ·subst c62
      have H1 : ((laws_markQuery.f kj10 t229 1).bind fun bt250 => (if bt250.1 < 0 then (laws_FnExactStartWatcher.j1 kj10 t227 true l0_0 t217 t220 t221 t224 t233 t236 t237 t240) else ((laws_eqWatcher.f kj10 t233 t236 t237 t240 t217 t220 t221 t224).bind fun t252 => (if t252 = true then (laws_FnExactStartWatcher.j1 kj10 t227 (t243 != t227) l0_0 t217 t220 t221 t224 t233 t236 t237 t240) else (laws_FnExactStartWatcher.j1 kj10 t227 true l0_0 t217 t220 t221 t224 t233 t236 t237 t240))))) = some r := by rw [if_pos rfl] at H; exact H
      clear H
      have H := H1
      clear H1
      replace H := Option.bind_eq_some_iff.mp H
      obtain ⟨⟨t250, t251⟩, A630, H⟩ := H
      replace H : (if t250 < 0 then (laws_FnExactStartWatcher.j1 kj10 t227 true l0_0 t217 t220 t221 t224 t233 t236 t237 t240) else ((laws_eqWatcher.f kj10 t233 t236 t237 t240 t217 t220 t221 t224).bind fun t252 => (if t252 = true then (laws_FnExactStartWatcher.j1 kj10 t227 (t243 != t227) l0_0 t217 t220 t221 t224 t233 t236 t237 t240) else (laws_FnExactStartWatcher.j1 kj10 t227 true l0_0 t217 t220 t221 t224 t233 t236 t237 t240)))) = some r := H
      have A63 := Aside0.mk A630
      clear A630
      have HC64 := Aside0.mk H
      clear H
      try go_wp2
      have n0_ := Aside0.mk (Kd.R_drew HO_229000.out)
      have n1_ := Aside0.mk (Kd.R_drew HO_229002.out)
      have n2_ := Aside0.mk (Kd.S_drew HO_229003.out)
      have n3_ := Aside0.mk (Kd.R_drew HO_233000.out)
      have n4_ := Aside0.mk (Kd.R_drew HO_245000.out)
      have n5_ := Aside0.mk (Kd.R_drew HO_245002.out)
      have n6_ := Aside0.mk (Kd.S_drew HO_245003.out)
      have n7_ := Aside0.mk (blk_drew BK212.out)
      have n8_ := Aside0.mk (blk_drew BK228.out)
      have n9_ := Aside0.mk (blk_drew BK232.out)
      have n10_ := Aside0.mk (blk_drew BK244.out)
      have n11_ := Aside0.mk (below_drew1 HB.out)
      clear HO_229000
      clear HO_229002
      clear HO_229003
      clear HO_233000
      clear HO_245000
      clear HO_245002
      clear HO_245003
      clear BK212
      clear BK228
      clear BK232
      clear BK244
      clear HB
      have HO_229000 := n0_
      have HO_229002 := n1_
      have HO_229003 := n2_
      have HO_233000 := n3_
      have HO_245000 := n4_
      have HO_245002 := n5_
      have HO_245003 := n6_
      have BK212 := n7_
      have BK228 := n8_
      have BK232 := n9_
      have BK244 := n10_
      have HB := n11_
      clear n0_ n1_ n2_ n3_ n4_ n5_ n6_ n7_ n8_ n9_ n10_ n11_
      refine start_ (n := 5) (S := fun w' => w'.cell? ⟨gb232, 0, none⟩ = some (.slice Ao28 t229.length co28) ∧ w'.cell? ⟨gb212, 0, none⟩ = some (.slice A0_0 l0_0.length c0_0)) (ds := []) #[false, false, false, false, false] (by kernel_rfl) rfl rfl ⟨(blk_cell BK232.out 0).trans rfl, (blk_cell BK212.out 0).trans rfl⟩ (fun hHeld => ?_)
      generalize wc.drew = w65 at HO_229000 HO_229002 HO_229003 HO_233000 HO_245000 HO_245002 HO_245003 BK212 BK228 BK232 BK244 HB hHeld ⊢
      refine take_ (i := 0) (N := some 41) (v := ?_) (a' := ?_) #[true, false, false, false, false] rfl rfl (by kernel_rfl) (fun _ _ _ h => h) (Or.inl ⟨by rfl, ?_⟩) hHeld ?_ ?_
      rotate_left
      ·rintro w' ⟨s0, s1⟩
       go_simp
       with_reducible rfl
      rotate_left
      ·simp only [Act.put, List.setIfInBounds_toArray, List.set_cons_zero, List.set_cons_succ, i64_w, i32_w]
       rfl
      refine take_ (i := 1) (N := some 42) (v := ?_) (a' := ?_) #[true, true, false, false, false] rfl rfl (by kernel_rfl) (fun _ _ _ h => h) (Or.inl ⟨by rfl, ?_⟩) hHeld ?_ ?_
      rotate_left
      ·rintro w' ⟨s0, s1⟩
       go_simp
       with_reducible rfl
      rotate_left
      ·simp only [Act.put, List.setIfInBounds_toArray, List.set_cons_zero, List.set_cons_succ, i64_w, i32_w]
       rfl
      refine one_ (i := 2) (N := some 43) #[true, true, true, false, false] rfl rfl (by kernel_rfl) (by decide) (fun K hK => ?_)
      refine goes_ Try.func7 (by kernel_rfl) rfl #[.agg #[.slice A0_0 l0_0.length c0_0]] (by rfl) rfl rfl (by (try simp only [List.map_toArray, List.map_cons, List.map_nil]); first | done | rfl | (simp only [List.length_drop, List.length_take]; rfl)) ?_
      with_reducible refine (laws_toQuery.calls kj10 _ _ l0_0 t246 _ ?side1 ?side2 A60.out).mono ?_
      (case side1 => repeat (first | exact (Kd.C_below HR0_0.out HB.out) | (with_reducible refine Kd.C_alloc ?_ _) | (with_reducible refine Kd.C_drewN ?_ _) | (with_reducible refine Kd.C_drew ?_)))
      (case side2 => exact HC0_0.out)
      rintro e w66 ⟨v247, rfl, ho0, hb⟩
      refine ⟨_, rfl, ?_⟩
      have n0_ := Aside0.mk (Kd.R_elder' (by (with_reducible repeat (first | apply Kd.R_alloc | apply Kd.R_drewN | apply Kd.R_drew)); exact HO_229000.out) (Kd.R_base ho0) hb)
      have n1_ := Aside0.mk (Kd.R_below (by (with_reducible repeat (first | apply Kd.R_alloc | apply Kd.R_drewN | apply Kd.R_drew)); exact HO_229002.out) hb)
      have n2_ := Aside0.mk (Kd.S_below (by (with_reducible repeat (first | apply Kd.S_alloc | apply Kd.S_drewN | apply Kd.S_drew)); exact HO_229003.out) hb)
      have n3_ := Aside0.mk (Kd.R_elder' (by (with_reducible repeat (first | apply Kd.R_alloc | apply Kd.R_drewN | apply Kd.R_drew)); exact HO_233000.out) (Kd.R_base ho0) hb)
      have n4_ := Aside0.mk (Kd.R_elder' (by (with_reducible repeat (first | apply Kd.R_alloc | apply Kd.R_drewN | apply Kd.R_drew)); exact HO_245000.out) (Kd.R_base ho0) hb)
      have n5_ := Aside0.mk (Kd.R_below (by (with_reducible repeat (first | apply Kd.R_alloc | apply Kd.R_drewN | apply Kd.R_drew)); exact HO_245002.out) hb)
      have n6_ := Aside0.mk (Kd.S_below (by (with_reducible repeat (first | apply Kd.S_alloc | apply Kd.S_drewN | apply Kd.S_drew)); exact HO_245003.out) hb)
      have n7_ := Aside0.mk (Kd.R_lower (Kd.R_new' (Kd.R_new' (Kd.R_new' ho0 (Kd.R_lt (by (with_reducible repeat (first | apply Kd.R_alloc | apply Kd.R_drewN | apply Kd.R_drew)); exact HO_229000.out))) (Kd.R_lt (by (with_reducible repeat (first | apply Kd.R_alloc | apply Kd.R_drewN | apply Kd.R_drew)); exact HO_233000.out))) (Kd.R_lt (by (with_reducible repeat (first | apply Kd.R_alloc | apply Kd.R_drewN | apply Kd.R_drew)); exact HO_245000.out))) (below_size (by repeat (first | (with_reducible first | exact HB.out | apply below_alloc | apply pw_below_drewN | apply below_drew1 | refine below_set ?_ GE212.out | refine below_set ?_ GE228.out | refine below_set ?_ GE232.out | refine below_set ?_ GE244.out) | exact HB.out))))
      have n8_ := Aside0.mk (blk_below (g := gb212) (o := .cells #[.slice A0_0 l0_0.length c0_0] 24 (0, 0)) (by (with_reducible repeat (first | refine blk_drewN ?_ _ | refine blk_drew ?_ | refine blk_alloc ?_ _)); exact BK212.out) hb)
      have n9_ := Aside0.mk (blk_below (g := gb228) (o := .cells #[.slice Ao20 t217.length co20, .int .i64 t220, .slice Ao23 t221.length co23, .slice Ao24 t224.length co24] 37 (0, 0)) (by (with_reducible repeat (first | refine blk_drewN ?_ _ | refine blk_drew ?_ | refine blk_alloc ?_ _)); exact BK228.out) hb)
      have n10_ := Aside0.mk (blk_below (g := gb232) (o := .cells #[.slice Ao28 t229.length co28] 30 (0, 0)) (by (with_reducible repeat (first | refine blk_drewN ?_ _ | refine blk_drew ?_ | refine blk_alloc ?_ _)); exact BK232.out) hb)
      have n11_ := Aside0.mk (blk_below (g := gb244) (o := .cells #[.slice Ao34 t233.length co34, .int .i64 t236, .slice Ao39 t237.length co39, .slice Ao40 t240.length co40] 37 (0, 0)) (by (with_reducible repeat (first | refine blk_drewN ?_ _ | refine blk_drew ?_ | refine blk_alloc ?_ _)); exact BK244.out) hb)
      have n12_ := Aside0.mk (below_step (by repeat (first | (with_reducible first | exact HB.out | apply below_alloc | apply pw_below_drewN | apply below_drew1 | refine below_set ?_ GE212.out | refine below_set ?_ GE228.out | refine below_set ?_ GE232.out | refine below_set ?_ GE244.out) | exact HB.out)) hb)
      clear HO_229000
      clear HO_229002
      clear HO_229003
      clear HO_233000
      clear HO_245000
      clear HO_245002
      clear HO_245003
      clear BK212
      clear BK228
      clear BK232
      clear BK244
      clear HB
      have HO_229000 := n0_
      have HO_229002 := n1_
      have HO_229003 := n2_
      have HO_233000 := n3_
      have HO_245000 := n4_
      have HO_245002 := n5_
      have HO_245003 := n6_
      have HO248 := n7_
      have BK212 := n8_
      have BK228 := n9_
      have BK232 := n10_
      have BK244 := n11_
      have HB := n12_
      clear n0_ n1_ n2_ n3_ n4_ n5_ n6_ n7_ n8_ n9_ n10_ n11_ n12_
      (try clear hb)
      (try clear hb2)
      (try clear hk)
      (try clear hi)
      (try clear ho0)
      obtain ⟨Ao67, co67, eo67⟩ := Kd.R_slice HO248.out
      (first | subst eo67 | (injection eo67 with f1_ f2_ f3_; have f4_ := f1_.symm; have f5_ := f3_.symm; clear f1_ f2_ f3_; subst f4_; subst f5_))
      refine hK.out _ _ ⟨(blk_cell BK232.out 0).trans rfl, (blk_cell BK212.out 0).trans rfl⟩ (fun hHeld => ?_)
      clear hK K
      refine norm_ (a' := ?_) ?_ ?_
      rotate_left
      ·show Act.put _ (some 43) _ = _
       simp only [Act.put, List.setIfInBounds_toArray, List.set_cons_zero, List.set_cons_succ, i64_w, i32_w]
       rfl
      refine one_ (i := 3) (N := some 44) #[true, true, true, true, false] rfl rfl (by kernel_rfl) (by decide) (fun K hK => ?_)
      refine goes_ Try.func9 (by kernel_rfl) rfl #[.agg #[.slice Ao28 t229.length co28], .agg #[.slice Ao67 t246.length co67]] (by rfl) rfl rfl (by (try simp only [List.map_toArray, List.map_cons, List.map_nil]); first | done | rfl | (simp only [List.length_drop, List.length_take]; rfl)) ?_
      with_reducible refine (laws_eqQuery.calls kj10 _ _ t229 _ _ t246 true _ ?side1 ?side2 ?side3 ?side4 A61.out).mono ?_
      (case side1 => repeat (first | exact (Kd.R_reads' HO_233000.out).2.2 | (with_reducible refine Kd.C_alloc ?_ _) | (with_reducible refine Kd.C_drewN ?_ _) | (with_reducible refine Kd.C_drew ?_)))
      (case side2 => exact (Kd.R_reads' HO_233000.out).2.1)
      (case side3 => repeat (first | exact (Kd.R_reads' HO248.out).2.2 | (with_reducible refine Kd.C_alloc ?_ _) | (with_reducible refine Kd.C_drewN ?_ _) | (with_reducible refine Kd.C_drew ?_)))
      (case side4 => exact (Kd.R_reads' HO248.out).2.1)
      rintro e w68 ⟨rfl, hb⟩
      refine ⟨_, rfl, ?_⟩
      have n0_ := Aside0.mk (Kd.R_below (by (with_reducible repeat (first | apply Kd.R_alloc | apply Kd.R_drewN | apply Kd.R_drew)); exact HO_229000.out) hb)
      have n1_ := Aside0.mk (Kd.R_below (by (with_reducible repeat (first | apply Kd.R_alloc | apply Kd.R_drewN | apply Kd.R_drew)); exact HO_229002.out) hb)
      have n2_ := Aside0.mk (Kd.S_below (by (with_reducible repeat (first | apply Kd.S_alloc | apply Kd.S_drewN | apply Kd.S_drew)); exact HO_229003.out) hb)
      have n3_ := Aside0.mk (Kd.R_below (by (with_reducible repeat (first | apply Kd.R_alloc | apply Kd.R_drewN | apply Kd.R_drew)); exact HO_233000.out) hb)
      have n4_ := Aside0.mk (Kd.R_below (by (with_reducible repeat (first | apply Kd.R_alloc | apply Kd.R_drewN | apply Kd.R_drew)); exact HO_245000.out) hb)
      have n5_ := Aside0.mk (Kd.R_below (by (with_reducible repeat (first | apply Kd.R_alloc | apply Kd.R_drewN | apply Kd.R_drew)); exact HO_245002.out) hb)
      have n6_ := Aside0.mk (Kd.S_below (by (with_reducible repeat (first | apply Kd.S_alloc | apply Kd.S_drewN | apply Kd.S_drew)); exact HO_245003.out) hb)
      have n7_ := Aside0.mk (Kd.R_below (by (with_reducible repeat (first | apply Kd.R_alloc | apply Kd.R_drewN | apply Kd.R_drew)); exact HO248.out) hb)
      have n8_ := Aside0.mk (blk_below (g := gb212) (o := .cells #[.slice A0_0 l0_0.length c0_0] 24 (0, 0)) (by (with_reducible repeat (first | refine blk_drewN ?_ _ | refine blk_drew ?_ | refine blk_alloc ?_ _)); exact BK212.out) hb)
      have n9_ := Aside0.mk (blk_below (g := gb228) (o := .cells #[.slice Ao20 t217.length co20, .int .i64 t220, .slice Ao23 t221.length co23, .slice Ao24 t224.length co24] 37 (0, 0)) (by (with_reducible repeat (first | refine blk_drewN ?_ _ | refine blk_drew ?_ | refine blk_alloc ?_ _)); exact BK228.out) hb)
      have n10_ := Aside0.mk (blk_below (g := gb232) (o := .cells #[.slice Ao28 t229.length co28] 30 (0, 0)) (by (with_reducible repeat (first | refine blk_drewN ?_ _ | refine blk_drew ?_ | refine blk_alloc ?_ _)); exact BK232.out) hb)
      have n11_ := Aside0.mk (blk_below (g := gb244) (o := .cells #[.slice Ao34 t233.length co34, .int .i64 t236, .slice Ao39 t237.length co39, .slice Ao40 t240.length co40] 37 (0, 0)) (by (with_reducible repeat (first | refine blk_drewN ?_ _ | refine blk_drew ?_ | refine blk_alloc ?_ _)); exact BK244.out) hb)
      have n12_ := Aside0.mk (below_step (by repeat (first | (with_reducible first | exact HB.out | apply below_alloc | apply pw_below_drewN | apply below_drew1 | refine below_set ?_ GE212.out | refine below_set ?_ GE228.out | refine below_set ?_ GE232.out | refine below_set ?_ GE244.out) | exact HB.out)) hb)
      clear HO_229000
      clear HO_229002
      clear HO_229003
      clear HO_233000
      clear HO_245000
      clear HO_245002
      clear HO_245003
      clear HO248
      clear BK212
      clear BK228
      clear BK232
      clear BK244
      clear HB
      have HO_229000 := n0_
      have HO_229002 := n1_
      have HO_229003 := n2_
      have HO_233000 := n3_
      have HO_245000 := n4_
      have HO_245002 := n5_
      have HO_245003 := n6_
      have HO248 := n7_
      have BK212 := n8_
      have BK228 := n9_
      have BK232 := n10_
      have BK244 := n11_
      have HB := n12_
      clear n0_ n1_ n2_ n3_ n4_ n5_ n6_ n7_ n8_ n9_ n10_ n11_ n12_
      (try clear hb)
      (try clear hb2)
      (try clear hk)
      (try clear hi)
      refine hK.out _ _ ⟨(blk_cell BK232.out 0).trans rfl, (blk_cell BK212.out 0).trans rfl⟩ (fun hHeld => ?_)
      clear hK K
      refine norm_ (a' := ?_) ?_ ?_
      rotate_left
      ·show Act.put _ (some 44) _ = _
       simp only [Act.put, List.setIfInBounds_toArray, List.set_cons_zero, List.set_cons_succ, i64_w, i32_w]
       rfl
      refine pure_ (i := 4) (N := some 45) (v := ?_) (a' := ?_) #[true, true, true, true, true] rfl rfl (by kernel_rfl) (fun _ _ _ h => h) (Or.inl ⟨by rfl, ?_⟩) ?_ ?_
      rotate_left
      ·intro w'
       go_simp
       with_reducible rfl
      rotate_left
      ·simp only [Act.put, List.setIfInBounds_toArray, List.set_cons_zero, List.set_cons_succ, i64_w, i32_w]
       rfl
      refine done_ (by kernel_rfl) ?_
      have hnb69 := NB232_212.out
      have hnc69 := NB212_232.out
      have hnb70 := NB232_228.out
      have hnc70 := NB228_232.out
      have hnb71 := NB232_244.out
      have hnc71 := NB244_232.out
      have hcz72_0 : w68.cell? ⟨gb232, 0, none⟩ = some (.slice Ao28 t229.length co28) := (blk_cell BK232.out 0).trans rfl
      have hfz72_0 := blk_frozen BK232.out 0
      go_upto_region 14 with (first | ((with_reducible refine gate_callee (f := 13) rfl ?_); refine goesL_ (some 48) rfl rfl Try.func13 (by kernel_rfl) rfl #[.agg #[.slice Ao28 t229.length co28], .int .i64 1] rfl (by (try simp only [List.map_toArray, List.map_cons, List.map_nil]); first | done | rfl | (simp only [List.length_drop, List.length_take]; rfl)) ?_; (with_reducible refine (laws_markQuery.calls kj10 (fun k_ => some k_ = (.slice Ao28 t229.length co28 : Value).ownBlock) (.slice Ao28 t229.length co28) t229 1 t250 t251 w _ ?side1 ?side2 A63.out).mono ?_); (case side1 => repeat (first | (with_reducible first | exact HB.out | apply below_alloc | apply pw_below_drewN | apply below_drew1 | refine below_set ?_ GE212.out | refine below_set ?_ GE228.out | refine below_set ?_ GE232.out | refine below_set ?_ GE244.out) | exact HB.out)); (case side2 => exact Kd.R_tight rfl HO_233000.out); rintro e w73 ⟨rfl, hy0, hb, hkp⟩; refine ⟨_, rfl, ?_⟩; have n0_ := Aside0.mk (Kd.R_mono (ok' := fun k_ => some k_ ≠ (.slice Ao28 t229.length co28 : Value).ownBlock ∧ some k_ ≠ (.slice Ao34 t233.length co34 : Value).ownBlock ∧ some k_ ≠ (.slice Ao67 t246.length co67 : Value).ownBlock) (Kd.R_keptB (HO_229000.out) hkp (fun k_ hk_ hs_ => (hk_.1.1) hs_)) (fun k_ hk_ => ⟨hk_.1.1.1, hk_.1.1.2, hk_.1.2⟩)); have n1_ := Aside0.mk (Kd.R_mono (ok' := fun k_ => some k_ ≠ (.slice Ao39 t237.length co39 : Value).ownBlock) (Kd.R_keptB ((Kd.R_apart' HO_229002.out (Kd.R_typed HO_233000.out) (by decide))) hkp (fun k_ hk_ hs_ => (hk_.2) hs_)) (fun k_ hk_ => hk_.1.1)); have n2_ := Aside0.mk (Kd.S_mono (ok' := fun k_ => some k_ ≠ (.slice Ao23 t221.length co23 : Value).ownBlock ∧ some k_ ≠ (.slice Ao39 t237.length co39 : Value).ownBlock ∧ some k_ ≠ (.slice Ao40 t240.length co40 : Value).ownBlock) (Kd.S_keptB ((Kd.S_apart' HO_229003.out (Kd.R_typed HO_233000.out) (by decide))) hkp (fun k_ hk_ hs_ => (hk_.2) hs_)) (fun k_ hk_ => ⟨hk_.1.1.1, hk_.1.1.2.1, hk_.1.1.2.2⟩)); have n3_ := Aside0.mk (Kd.R_reok rfl hy0 (fun k_ e_ => HO_233000.out.1 k_ e_)); have n4_ := Aside0.mk (Kd.R_mono (ok' := fun k_ => some k_ ≠ (.slice Ao20 t217.length co20 : Value).ownBlock ∧ some k_ ≠ (.slice Ao28 t229.length co28 : Value).ownBlock ∧ some k_ ≠ (.slice Ao67 t246.length co67 : Value).ownBlock) (Kd.R_keptB (HO_245000.out) hkp (fun k_ hk_ hs_ => (hk_.1.2) hs_)) (fun k_ hk_ => ⟨hk_.1.1.1, hk_.1.1.2, hk_.1.2⟩)); have n5_ := Aside0.mk (Kd.R_mono (ok' := fun k_ => some k_ ≠ (.slice Ao23 t221.length co23 : Value).ownBlock) (Kd.R_keptB ((Kd.R_apart' HO_245002.out (Kd.R_typed HO_233000.out) (by decide))) hkp (fun k_ hk_ hs_ => (hk_.2) hs_)) (fun k_ hk_ => hk_.1.1)); have n6_ := Aside0.mk (Kd.S_mono (ok' := fun k_ => some k_ ≠ (.slice Ao23 t221.length co23 : Value).ownBlock ∧ some k_ ≠ (.slice Ao24 t224.length co24 : Value).ownBlock ∧ some k_ ≠ (.slice Ao39 t237.length co39 : Value).ownBlock) (Kd.S_keptB ((Kd.S_apart' HO_245003.out (Kd.R_typed HO_233000.out) (by decide))) hkp (fun k_ hk_ hs_ => (hk_.2) hs_)) (fun k_ hk_ => ⟨hk_.1.1.1, hk_.1.1.2.1, hk_.1.1.2.2⟩)); have n7_ := Aside0.mk (blk_kept (by (with_reducible repeat (first | refine blk_drewN ?_ _ | refine blk_drew ?_ | refine blk_alloc ?_ _)); exact BK212.out) hkp (fun hs_ => (fun e_ => (Kd.R_ne HO_233000.out BK212.out (by decide)) e_) hs_)); have n8_ := Aside0.mk (blk_kept (by (with_reducible repeat (first | refine blk_drewN ?_ _ | refine blk_drew ?_ | refine blk_alloc ?_ _)); exact BK228.out) hkp (fun hs_ => (fun e_ => (Kd.R_ne HO_233000.out BK228.out (by decide)) e_) hs_)); have n9_ := Aside0.mk (blk_kept (by (with_reducible repeat (first | refine blk_drewN ?_ _ | refine blk_drew ?_ | refine blk_alloc ?_ _)); exact BK232.out) hkp (fun hs_ => (fun e_ => (Kd.R_ne HO_233000.out BK232.out (by decide)) e_) hs_)); have n10_ := Aside0.mk (blk_kept (by (with_reducible repeat (first | refine blk_drewN ?_ _ | refine blk_drew ?_ | refine blk_alloc ?_ _)); exact BK244.out) hkp (fun hs_ => (fun e_ => (Kd.R_ne HO_233000.out BK244.out (by decide)) e_) hs_)); have n11_ := Aside0.mk (Kd.R_mono (ok' := fun k_ => some k_ ≠ (.slice Ao20 t217.length co20 : Value).ownBlock ∧ some k_ ≠ (.slice Ao28 t229.length co28 : Value).ownBlock ∧ some k_ ≠ (.slice Ao34 t233.length co34 : Value).ownBlock) (Kd.R_keptB (HO248.out) hkp (fun k_ hk_ hs_ => (hk_.1.2) hs_)) (fun k_ hk_ => ⟨hk_.1.1.1.2, hk_.1.1.2, hk_.1.2⟩)); have n12_ := Aside0.mk (hb); clear HO_229000; clear HO_229002; clear HO_229003; clear HO_233000; clear HO_245000; clear HO_245002; clear HO_245003; clear BK212; clear BK228; clear BK232; clear BK244; clear HO248; clear HB; have HO_229000 := n0_; have HO_229002 := n1_; have HO_229003 := n2_; have HO_233000 := n3_; have HO_245000 := n4_; have HO_245002 := n5_; have HO_245003 := n6_; have BK212 := n7_; have BK228 := n8_; have BK232 := n9_; have BK244 := n10_; have HO248 := n11_; have HB := n12_; clear n0_ n1_ n2_ n3_ n4_ n5_ n6_ n7_ n8_ n9_ n10_ n11_ n12_; (try clear hb); (try clear hkp); (try clear hy0)))
      (try simp only [Act.put, List.setIfInBounds_toArray, List.set_cons_zero, List.set_cons_succ])
      go_cut [61] (fun v61 wc => ∃ (kq : Nat) (x61_63 : Bool), v61 = .bool x61_63 ∧ Aside0 (laws_FnExactStartWatcher.j1 kq t227 x61_63 l0_0 t217 t220 t221 t224 t233 t236 t237 t240 = some r) ∧ Aside0 (kq ≤ kj10) ∧ Aside0 (Kd.R k66 66 wc w.heap.size (fun k_ => some k_ ≠ ((.slice Ao28 t229.length co28) : Value).ownBlock ∧ some k_ ≠ ((.slice Ao34 t233.length co34) : Value).ownBlock) (.slice Ao20 t217.length co20) t217) ∧ Aside0 (Kd.R (Kd.int .i64) 2 wc w.heap.size (fun k_ => some k_ ≠ ((.slice Ao39 t237.length co39) : Value).ownBlock) (.slice Ao23 t221.length co23) t221) ∧ Aside0 (Kd.S (Kd.slice 2 (Kd.int .i64)) 34 wc w.heap.size (fun k_ => some k_ ≠ ((.slice Ao23 t221.length co23) : Value).ownBlock ∧ some k_ ≠ ((.slice Ao39 t237.length co39) : Value).ownBlock ∧ some k_ ≠ ((.slice Ao40 t240.length co40) : Value).ownBlock) (.slice Ao24 t224.length co24) t224) ∧ Aside0 (Kd.R k66 66 wc w.heap.size (fun k_ => some k_ ≠ ((.slice Ao20 t217.length co20) : Value).ownBlock ∧ some k_ ≠ ((.slice Ao34 t233.length co34) : Value).ownBlock) (.slice Ao28 t229.length co28) t251) ∧ Aside0 (Kd.R k66 66 wc w.heap.size (fun k_ => some k_ ≠ ((.slice Ao20 t217.length co20) : Value).ownBlock ∧ some k_ ≠ ((.slice Ao28 t229.length co28) : Value).ownBlock) (.slice Ao34 t233.length co34) t233) ∧ Aside0 (Kd.R (Kd.int .i64) 2 wc w.heap.size (fun k_ => some k_ ≠ ((.slice Ao23 t221.length co23) : Value).ownBlock) (.slice Ao39 t237.length co39) t237) ∧ Aside0 (Kd.S (Kd.slice 2 (Kd.int .i64)) 34 wc w.heap.size (fun k_ => some k_ ≠ ((.slice Ao23 t221.length co23) : Value).ownBlock ∧ some k_ ≠ ((.slice Ao24 t224.length co24) : Value).ownBlock ∧ some k_ ≠ ((.slice Ao39 t237.length co39) : Value).ownBlock) (.slice Ao40 t240.length co40) t240) ∧ Aside0 (wc.heap[gb212]? = some (.cells #[(.slice A0_0 l0_0.length c0_0)] 24 (0, 0))) ∧ Aside0 (wc.heap[gb228]? = some (.cells #[(.slice Ao20 t217.length co20), .int .i64 t220, (.slice Ao23 t221.length co23), (.slice Ao24 t224.length co24)] 37 (0, 0))) ∧ Aside0 (wc.heap[gb232]? = some (.cells #[(.slice Ao28 t229.length co28)] 30 (0, 0))) ∧ Aside0 (wc.heap[gb244]? = some (.cells #[(.slice Ao34 t233.length co34), .int .i64 t236, (.slice Ao39 t237.length co39), (.slice Ao40 t240.length co40)] 37 (0, 0))) ∧ Aside0 (Below w.heap.size w wc))
      case first =>
       have H := HC64.out
       clear HC64
       by_cases c74 : t250 < 0
       ·rw [if_pos c74] at H
        have c74b0 : decide (t250 < 0) = true := decide_eq_true c74
        clear c74
        (first | rw [c74b0] | rw [c74b1] | (simp only [i64_w, i32_w]; rw [c74b0]) | skip)
        have H' := Aside0.mk H
        clear H
        go_wp2
        go_meet
        case rel => exact ⟨_, (true), (by first | rfl | (simp; done) | (simp [*]; done)), H', ⟨by have := HJ10.out; first | omega | exact Nat.le_refl _⟩, ⟨by (with_reducible repeat (first | apply Kd.R_alloc | apply Kd.R_drewN | apply Kd.R_drew)); exact Kd.R_mono HO_229000.out (fun _ hk => ⟨hk.1, hk.2.1⟩)⟩, ⟨by (with_reducible repeat (first | apply Kd.R_alloc | apply Kd.R_drewN | apply Kd.R_drew)); exact HO_229002.out⟩, ⟨by (with_reducible repeat (first | apply Kd.S_alloc | apply Kd.S_drewN | apply Kd.S_drew)); exact HO_229003.out⟩, ⟨by (with_reducible repeat (first | apply Kd.R_alloc | apply Kd.R_drewN | apply Kd.R_drew)); exact Kd.R_mono HO_233000.out (fun _ hk => ⟨hk.1.1, hk.1.2⟩)⟩, ⟨by (with_reducible repeat (first | apply Kd.R_alloc | apply Kd.R_drewN | apply Kd.R_drew)); exact Kd.R_mono HO_245000.out (fun _ hk => ⟨hk.1, hk.2.1⟩)⟩, ⟨by (with_reducible repeat (first | apply Kd.R_alloc | apply Kd.R_drewN | apply Kd.R_drew)); exact HO_245002.out⟩, ⟨by (with_reducible repeat (first | apply Kd.S_alloc | apply Kd.S_drewN | apply Kd.S_drew)); exact HO_245003.out⟩, ⟨by (with_reducible repeat (first | refine blk_drewN ?_ _ | refine blk_drew ?_ | refine blk_alloc ?_ _)); exact BK212.out⟩, ⟨by (with_reducible repeat (first | refine blk_drewN ?_ _ | refine blk_drew ?_ | refine blk_alloc ?_ _)); exact BK228.out⟩, ⟨by (with_reducible repeat (first | refine blk_drewN ?_ _ | refine blk_drew ?_ | refine blk_alloc ?_ _)); exact BK232.out⟩, ⟨by (with_reducible repeat (first | refine blk_drewN ?_ _ | refine blk_drew ?_ | refine blk_alloc ?_ _)); exact BK244.out⟩, ⟨by repeat (first | (with_reducible first | exact HB.out | apply below_alloc | apply pw_below_drewN | apply below_drew1 | refine below_set ?_ GE212.out | refine below_set ?_ GE228.out | refine below_set ?_ GE232.out | refine below_set ?_ GE244.out) | exact HB.out)⟩⟩
       ·rw [if_neg c74] at H
        have c74b0 : decide (t250 < 0) = false := decide_eq_false c74
        clear c74
        (first | rw [c74b0] | rw [c74b1] | (simp only [i64_w, i32_w]; rw [c74b0]) | skip)
        replace H := Option.bind_eq_some_iff.mp H
        obtain ⟨t252, A750, H⟩ := H
        replace H : (if t252 = true then (laws_FnExactStartWatcher.j1 kj10 t227 (t243 != t227) l0_0 t217 t220 t221 t224 t233 t236 t237 t240) else (laws_FnExactStartWatcher.j1 kj10 t227 true l0_0 t217 t220 t221 t224 t233 t236 t237 t240)) = some r := H
        have A75 := Aside0.mk A750
        clear A750
        by_cases c76 : t252 = true
        ·subst c76
         have H1 : (laws_FnExactStartWatcher.j1 kj10 t227 (t243 != t227) l0_0 t217 t220 t221 t224 t233 t236 t237 t240) = some r := by rw [if_pos rfl] at H; exact H
         clear H
         have H := H1
         clear H1
         have H' := Aside0.mk H
         clear H
         have hnb77 := NB244_212.out
         have hnc77 := NB212_244.out
         have hnb78 := NB244_228.out
         have hnc78 := NB228_244.out
         have hnb79 := NB244_232.out
         have hnc79 := NB232_244.out
         have hcz80_0 : w73.cell? ⟨gb244, 0, none⟩ = some (.slice Ao34 t233.length co34) := (blk_cell BK244.out 0).trans rfl
         have hcz80_1 : w73.cell? ⟨gb244, 1, none⟩ = some (.int .i64 t236) := (blk_cell BK244.out 1).trans rfl
         have hcz80_2 : w73.cell? ⟨gb244, 2, none⟩ = some (.slice Ao39 t237.length co39) := (blk_cell BK244.out 2).trans rfl
         have hcz80_3 : w73.cell? ⟨gb244, 3, none⟩ = some (.slice Ao40 t240.length co40) := (blk_cell BK244.out 3).trans rfl
         have hfz80_0 := blk_frozen BK244.out 0
         have hfz80_1 := blk_frozen BK244.out 1
         have hfz80_2 := blk_frozen BK244.out 2
         have hfz80_3 := blk_frozen BK244.out 3
         have hnb81 := NB228_212.out
         have hnc81 := NB212_228.out
         have hnb82 := NB228_232.out
         have hnc82 := NB232_228.out
         have hcz83_0 : w73.cell? ⟨gb228, 0, none⟩ = some (.slice Ao20 t217.length co20) := (blk_cell BK228.out 0).trans rfl
         have hcz83_1 : w73.cell? ⟨gb228, 1, none⟩ = some (.int .i64 t220) := (blk_cell BK228.out 1).trans rfl
         have hcz83_2 : w73.cell? ⟨gb228, 2, none⟩ = some (.slice Ao23 t221.length co23) := (blk_cell BK228.out 2).trans rfl
         have hcz83_3 : w73.cell? ⟨gb228, 3, none⟩ = some (.slice Ao24 t224.length co24) := (blk_cell BK228.out 3).trans rfl
         have hfz83_0 := blk_frozen BK228.out 0
         have hfz83_1 := blk_frozen BK228.out 1
         have hfz83_2 := blk_frozen BK228.out 2
         have hfz83_3 := blk_frozen BK228.out 3
         go_wp2_with (first | (go_at_call 12; (with_reducible refine (laws_eqWatcher.calls kj10 _ _ t233 t236 _ _ t237 _ _ t240 _ _ t217 t220 _ _ t221 _ _ t224 true _ ?side1 ?side2 ?side3 ?side4 ?side5 ?side6 ?side7 ?side8 ?side9 ?side10 ?side11 ?side12 A75.out).mono ?_); (case side1 => repeat (first | exact (Kd.R_reads' HO_245000.out).2.2 | (with_reducible refine Kd.C_alloc ?_ _) | (with_reducible refine Kd.C_drewN ?_ _) | (with_reducible refine Kd.C_drew ?_))); (case side2 => exact (Kd.R_reads' HO_245000.out).2.1); (case side3 => repeat (first | exact (Kd.R_reads' HO_245002.out).2.2 | (with_reducible refine Kd.C_alloc ?_ _) | (with_reducible refine Kd.C_drewN ?_ _) | (with_reducible refine Kd.C_drew ?_))); (case side4 => exact (Kd.R_reads' HO_245002.out).2.1); (case side5 => repeat (first | exact (Kd.S_reads' HO_245003.out).2.2 | (with_reducible refine Kd.C_alloc ?_ _) | (with_reducible refine Kd.C_drewN ?_ _) | (with_reducible refine Kd.C_drew ?_))); (case side6 => exact (Kd.S_reads' HO_245003.out).2.1); (case side7 => repeat (first | exact (Kd.R_reads' HO_229000.out).2.2 | (with_reducible refine Kd.C_alloc ?_ _) | (with_reducible refine Kd.C_drewN ?_ _) | (with_reducible refine Kd.C_drew ?_))); (case side8 => exact (Kd.R_reads' HO_229000.out).2.1); (case side9 => repeat (first | exact (Kd.R_reads' HO_229002.out).2.2 | (with_reducible refine Kd.C_alloc ?_ _) | (with_reducible refine Kd.C_drewN ?_ _) | (with_reducible refine Kd.C_drew ?_))); (case side10 => exact (Kd.R_reads' HO_229002.out).2.1); (case side11 => repeat (first | exact (Kd.S_reads' HO_229003.out).2.2 | (with_reducible refine Kd.C_alloc ?_ _) | (with_reducible refine Kd.C_drewN ?_ _) | (with_reducible refine Kd.C_drew ?_))); (case side12 => exact (Kd.S_reads' HO_229003.out).2.1); rintro e w84 ⟨rfl, hb⟩; have n0_ := Aside0.mk (Kd.R_below (by (with_reducible repeat (first | apply Kd.R_alloc | apply Kd.R_drewN | apply Kd.R_drew)); exact HO_229000.out) hb); have n1_ := Aside0.mk (Kd.R_below (by (with_reducible repeat (first | apply Kd.R_alloc | apply Kd.R_drewN | apply Kd.R_drew)); exact HO_229002.out) hb); have n2_ := Aside0.mk (Kd.S_below (by (with_reducible repeat (first | apply Kd.S_alloc | apply Kd.S_drewN | apply Kd.S_drew)); exact HO_229003.out) hb); have n3_ := Aside0.mk (Kd.R_below (by (with_reducible repeat (first | apply Kd.R_alloc | apply Kd.R_drewN | apply Kd.R_drew)); exact HO_233000.out) hb); have n4_ := Aside0.mk (Kd.R_below (by (with_reducible repeat (first | apply Kd.R_alloc | apply Kd.R_drewN | apply Kd.R_drew)); exact HO_245000.out) hb); have n5_ := Aside0.mk (Kd.R_below (by (with_reducible repeat (first | apply Kd.R_alloc | apply Kd.R_drewN | apply Kd.R_drew)); exact HO_245002.out) hb); have n6_ := Aside0.mk (Kd.S_below (by (with_reducible repeat (first | apply Kd.S_alloc | apply Kd.S_drewN | apply Kd.S_drew)); exact HO_245003.out) hb); have n7_ := Aside0.mk (Kd.R_below (by (with_reducible repeat (first | apply Kd.R_alloc | apply Kd.R_drewN | apply Kd.R_drew)); exact HO248.out) hb); have n8_ := Aside0.mk (blk_below (g := gb212) (o := .cells #[.slice A0_0 l0_0.length c0_0] 24 (0, 0)) (by (with_reducible repeat (first | refine blk_drewN ?_ _ | refine blk_drew ?_ | refine blk_alloc ?_ _)); exact BK212.out) hb); have n9_ := Aside0.mk (blk_below (g := gb228) (o := .cells #[.slice Ao20 t217.length co20, .int .i64 t220, .slice Ao23 t221.length co23, .slice Ao24 t224.length co24] 37 (0, 0)) (by (with_reducible repeat (first | refine blk_drewN ?_ _ | refine blk_drew ?_ | refine blk_alloc ?_ _)); exact BK228.out) hb); have n10_ := Aside0.mk (blk_below (g := gb232) (o := .cells #[.slice Ao28 t229.length co28] 30 (0, 0)) (by (with_reducible repeat (first | refine blk_drewN ?_ _ | refine blk_drew ?_ | refine blk_alloc ?_ _)); exact BK232.out) hb); have n11_ := Aside0.mk (blk_below (g := gb244) (o := .cells #[.slice Ao34 t233.length co34, .int .i64 t236, .slice Ao39 t237.length co39, .slice Ao40 t240.length co40] 37 (0, 0)) (by (with_reducible repeat (first | refine blk_drewN ?_ _ | refine blk_drew ?_ | refine blk_alloc ?_ _)); exact BK244.out) hb); have n12_ := Aside0.mk (below_step (by repeat (first | (with_reducible first | exact HB.out | apply below_alloc | apply pw_below_drewN | apply below_drew1 | refine below_set ?_ GE212.out | refine below_set ?_ GE228.out | refine below_set ?_ GE232.out | refine below_set ?_ GE244.out) | exact HB.out)) hb); clear HO_229000; clear HO_229002; clear HO_229003; clear HO_233000; clear HO_245000; clear HO_245002; clear HO_245003; clear HO248; clear BK212; clear BK228; clear BK232; clear BK244; clear HB; have HO_229000 := n0_; have HO_229002 := n1_; have HO_229003 := n2_; have HO_233000 := n3_; have HO_245000 := n4_; have HO_245002 := n5_; have HO_245003 := n6_; have HO248 := n7_; have BK212 := n8_; have BK228 := n9_; have BK232 := n10_; have BK244 := n11_; have HB := n12_; clear n0_ n1_ n2_ n3_ n4_ n5_ n6_ n7_ n8_ n9_ n10_ n11_ n12_; (try clear hb); (try clear hb2); (try clear hk); (try clear hi)))
         go_meet
         case rel => exact ⟨_, ((t243 != t227)), (by first | rfl | (simp; done) | (simp [*]; done)), H', ⟨by have := HJ10.out; first | omega | exact Nat.le_refl _⟩, ⟨by (with_reducible repeat (first | apply Kd.R_alloc | apply Kd.R_drewN | apply Kd.R_drew)); exact Kd.R_mono HO_229000.out (fun _ hk => ⟨hk.1, hk.2.1⟩)⟩, ⟨by (with_reducible repeat (first | apply Kd.R_alloc | apply Kd.R_drewN | apply Kd.R_drew)); exact HO_229002.out⟩, ⟨by (with_reducible repeat (first | apply Kd.S_alloc | apply Kd.S_drewN | apply Kd.S_drew)); exact HO_229003.out⟩, ⟨by (with_reducible repeat (first | apply Kd.R_alloc | apply Kd.R_drewN | apply Kd.R_drew)); exact Kd.R_mono HO_233000.out (fun _ hk => ⟨hk.1.1, hk.1.2⟩)⟩, ⟨by (with_reducible repeat (first | apply Kd.R_alloc | apply Kd.R_drewN | apply Kd.R_drew)); exact Kd.R_mono HO_245000.out (fun _ hk => ⟨hk.1, hk.2.1⟩)⟩, ⟨by (with_reducible repeat (first | apply Kd.R_alloc | apply Kd.R_drewN | apply Kd.R_drew)); exact HO_245002.out⟩, ⟨by (with_reducible repeat (first | apply Kd.S_alloc | apply Kd.S_drewN | apply Kd.S_drew)); exact HO_245003.out⟩, ⟨by (with_reducible repeat (first | refine blk_drewN ?_ _ | refine blk_drew ?_ | refine blk_alloc ?_ _)); exact BK212.out⟩, ⟨by (with_reducible repeat (first | refine blk_drewN ?_ _ | refine blk_drew ?_ | refine blk_alloc ?_ _)); exact BK228.out⟩, ⟨by (with_reducible repeat (first | refine blk_drewN ?_ _ | refine blk_drew ?_ | refine blk_alloc ?_ _)); exact BK232.out⟩, ⟨by (with_reducible repeat (first | refine blk_drewN ?_ _ | refine blk_drew ?_ | refine blk_alloc ?_ _)); exact BK244.out⟩, ⟨by repeat (first | (with_reducible first | exact HB.out | apply below_alloc | apply pw_below_drewN | apply below_drew1 | refine below_set ?_ GE212.out | refine below_set ?_ GE228.out | refine below_set ?_ GE232.out | refine below_set ?_ GE244.out) | exact HB.out)⟩⟩
        ·replace c76 := Bool.eq_false_iff.mpr c76
         subst c76
         have H1 : (laws_FnExactStartWatcher.j1 kj10 t227 true l0_0 t217 t220 t221 t224 t233 t236 t237 t240) = some r := by rw [if_neg (show ¬ (false = true) by decide)] at H; exact H
         clear H
         have H := H1
         clear H1
         have H' := Aside0.mk H
         clear H
         have hnb85 := NB244_212.out
         have hnc85 := NB212_244.out
         have hnb86 := NB244_228.out
         have hnc86 := NB228_244.out
         have hnb87 := NB244_232.out
         have hnc87 := NB232_244.out
         have hcz88_0 : w73.cell? ⟨gb244, 0, none⟩ = some (.slice Ao34 t233.length co34) := (blk_cell BK244.out 0).trans rfl
         have hcz88_1 : w73.cell? ⟨gb244, 1, none⟩ = some (.int .i64 t236) := (blk_cell BK244.out 1).trans rfl
         have hcz88_2 : w73.cell? ⟨gb244, 2, none⟩ = some (.slice Ao39 t237.length co39) := (blk_cell BK244.out 2).trans rfl
         have hcz88_3 : w73.cell? ⟨gb244, 3, none⟩ = some (.slice Ao40 t240.length co40) := (blk_cell BK244.out 3).trans rfl
         have hfz88_0 := blk_frozen BK244.out 0
         have hfz88_1 := blk_frozen BK244.out 1
         have hfz88_2 := blk_frozen BK244.out 2
         have hfz88_3 := blk_frozen BK244.out 3
         have hnb89 := NB228_212.out
         have hnc89 := NB212_228.out
         have hnb90 := NB228_232.out
         have hnc90 := NB232_228.out
         have hcz91_0 : w73.cell? ⟨gb228, 0, none⟩ = some (.slice Ao20 t217.length co20) := (blk_cell BK228.out 0).trans rfl
         have hcz91_1 : w73.cell? ⟨gb228, 1, none⟩ = some (.int .i64 t220) := (blk_cell BK228.out 1).trans rfl
         have hcz91_2 : w73.cell? ⟨gb228, 2, none⟩ = some (.slice Ao23 t221.length co23) := (blk_cell BK228.out 2).trans rfl
         have hcz91_3 : w73.cell? ⟨gb228, 3, none⟩ = some (.slice Ao24 t224.length co24) := (blk_cell BK228.out 3).trans rfl
         have hfz91_0 := blk_frozen BK228.out 0
         have hfz91_1 := blk_frozen BK228.out 1
         have hfz91_2 := blk_frozen BK228.out 2
         have hfz91_3 := blk_frozen BK228.out 3
         go_wp2_with (first | (go_at_call 12; (with_reducible refine (laws_eqWatcher.calls kj10 _ _ t233 t236 _ _ t237 _ _ t240 _ _ t217 t220 _ _ t221 _ _ t224 false _ ?side1 ?side2 ?side3 ?side4 ?side5 ?side6 ?side7 ?side8 ?side9 ?side10 ?side11 ?side12 A75.out).mono ?_); (case side1 => repeat (first | exact (Kd.R_reads' HO_245000.out).2.2 | (with_reducible refine Kd.C_alloc ?_ _) | (with_reducible refine Kd.C_drewN ?_ _) | (with_reducible refine Kd.C_drew ?_))); (case side2 => exact (Kd.R_reads' HO_245000.out).2.1); (case side3 => repeat (first | exact (Kd.R_reads' HO_245002.out).2.2 | (with_reducible refine Kd.C_alloc ?_ _) | (with_reducible refine Kd.C_drewN ?_ _) | (with_reducible refine Kd.C_drew ?_))); (case side4 => exact (Kd.R_reads' HO_245002.out).2.1); (case side5 => repeat (first | exact (Kd.S_reads' HO_245003.out).2.2 | (with_reducible refine Kd.C_alloc ?_ _) | (with_reducible refine Kd.C_drewN ?_ _) | (with_reducible refine Kd.C_drew ?_))); (case side6 => exact (Kd.S_reads' HO_245003.out).2.1); (case side7 => repeat (first | exact (Kd.R_reads' HO_229000.out).2.2 | (with_reducible refine Kd.C_alloc ?_ _) | (with_reducible refine Kd.C_drewN ?_ _) | (with_reducible refine Kd.C_drew ?_))); (case side8 => exact (Kd.R_reads' HO_229000.out).2.1); (case side9 => repeat (first | exact (Kd.R_reads' HO_229002.out).2.2 | (with_reducible refine Kd.C_alloc ?_ _) | (with_reducible refine Kd.C_drewN ?_ _) | (with_reducible refine Kd.C_drew ?_))); (case side10 => exact (Kd.R_reads' HO_229002.out).2.1); (case side11 => repeat (first | exact (Kd.S_reads' HO_229003.out).2.2 | (with_reducible refine Kd.C_alloc ?_ _) | (with_reducible refine Kd.C_drewN ?_ _) | (with_reducible refine Kd.C_drew ?_))); (case side12 => exact (Kd.S_reads' HO_229003.out).2.1); rintro e w92 ⟨rfl, hb⟩; have n0_ := Aside0.mk (Kd.R_below (by (with_reducible repeat (first | apply Kd.R_alloc | apply Kd.R_drewN | apply Kd.R_drew)); exact HO_229000.out) hb); have n1_ := Aside0.mk (Kd.R_below (by (with_reducible repeat (first | apply Kd.R_alloc | apply Kd.R_drewN | apply Kd.R_drew)); exact HO_229002.out) hb); have n2_ := Aside0.mk (Kd.S_below (by (with_reducible repeat (first | apply Kd.S_alloc | apply Kd.S_drewN | apply Kd.S_drew)); exact HO_229003.out) hb); have n3_ := Aside0.mk (Kd.R_below (by (with_reducible repeat (first | apply Kd.R_alloc | apply Kd.R_drewN | apply Kd.R_drew)); exact HO_233000.out) hb); have n4_ := Aside0.mk (Kd.R_below (by (with_reducible repeat (first | apply Kd.R_alloc | apply Kd.R_drewN | apply Kd.R_drew)); exact HO_245000.out) hb); have n5_ := Aside0.mk (Kd.R_below (by (with_reducible repeat (first | apply Kd.R_alloc | apply Kd.R_drewN | apply Kd.R_drew)); exact HO_245002.out) hb); have n6_ := Aside0.mk (Kd.S_below (by (with_reducible repeat (first | apply Kd.S_alloc | apply Kd.S_drewN | apply Kd.S_drew)); exact HO_245003.out) hb); have n7_ := Aside0.mk (Kd.R_below (by (with_reducible repeat (first | apply Kd.R_alloc | apply Kd.R_drewN | apply Kd.R_drew)); exact HO248.out) hb); have n8_ := Aside0.mk (blk_below (g := gb212) (o := .cells #[.slice A0_0 l0_0.length c0_0] 24 (0, 0)) (by (with_reducible repeat (first | refine blk_drewN ?_ _ | refine blk_drew ?_ | refine blk_alloc ?_ _)); exact BK212.out) hb); have n9_ := Aside0.mk (blk_below (g := gb228) (o := .cells #[.slice Ao20 t217.length co20, .int .i64 t220, .slice Ao23 t221.length co23, .slice Ao24 t224.length co24] 37 (0, 0)) (by (with_reducible repeat (first | refine blk_drewN ?_ _ | refine blk_drew ?_ | refine blk_alloc ?_ _)); exact BK228.out) hb); have n10_ := Aside0.mk (blk_below (g := gb232) (o := .cells #[.slice Ao28 t229.length co28] 30 (0, 0)) (by (with_reducible repeat (first | refine blk_drewN ?_ _ | refine blk_drew ?_ | refine blk_alloc ?_ _)); exact BK232.out) hb); have n11_ := Aside0.mk (blk_below (g := gb244) (o := .cells #[.slice Ao34 t233.length co34, .int .i64 t236, .slice Ao39 t237.length co39, .slice Ao40 t240.length co40] 37 (0, 0)) (by (with_reducible repeat (first | refine blk_drewN ?_ _ | refine blk_drew ?_ | refine blk_alloc ?_ _)); exact BK244.out) hb); have n12_ := Aside0.mk (below_step (by repeat (first | (with_reducible first | exact HB.out | apply below_alloc | apply pw_below_drewN | apply below_drew1 | refine below_set ?_ GE212.out | refine below_set ?_ GE228.out | refine below_set ?_ GE232.out | refine below_set ?_ GE244.out) | exact HB.out)) hb); clear HO_229000; clear HO_229002; clear HO_229003; clear HO_233000; clear HO_245000; clear HO_245002; clear HO_245003; clear HO248; clear BK212; clear BK228; clear BK232; clear BK244; clear HB; have HO_229000 := n0_; have HO_229002 := n1_; have HO_229003 := n2_; have HO_233000 := n3_; have HO_245000 := n4_; have HO_245002 := n5_; have HO_245003 := n6_; have HO248 := n7_; have BK212 := n8_; have BK228 := n9_; have BK232 := n10_; have BK244 := n11_; have HB := n12_; clear n0_ n1_ n2_ n3_ n4_ n5_ n6_ n7_ n8_ n9_ n10_ n11_ n12_; (try clear hb); (try clear hb2); (try clear hk); (try clear hi)))
         go_meet
         case rel => exact ⟨_, (true), (by first | rfl | (simp; done) | (simp [*]; done)), H', ⟨by have := HJ10.out; first | omega | exact Nat.le_refl _⟩, ⟨by (with_reducible repeat (first | apply Kd.R_alloc | apply Kd.R_drewN | apply Kd.R_drew)); exact Kd.R_mono HO_229000.out (fun _ hk => ⟨hk.1, hk.2.1⟩)⟩, ⟨by (with_reducible repeat (first | apply Kd.R_alloc | apply Kd.R_drewN | apply Kd.R_drew)); exact HO_229002.out⟩, ⟨by (with_reducible repeat (first | apply Kd.S_alloc | apply Kd.S_drewN | apply Kd.S_drew)); exact HO_229003.out⟩, ⟨by (with_reducible repeat (first | apply Kd.R_alloc | apply Kd.R_drewN | apply Kd.R_drew)); exact Kd.R_mono HO_233000.out (fun _ hk => ⟨hk.1.1, hk.1.2⟩)⟩, ⟨by (with_reducible repeat (first | apply Kd.R_alloc | apply Kd.R_drewN | apply Kd.R_drew)); exact Kd.R_mono HO_245000.out (fun _ hk => ⟨hk.1, hk.2.1⟩)⟩, ⟨by (with_reducible repeat (first | apply Kd.R_alloc | apply Kd.R_drewN | apply Kd.R_drew)); exact HO_245002.out⟩, ⟨by (with_reducible repeat (first | apply Kd.S_alloc | apply Kd.S_drewN | apply Kd.S_drew)); exact HO_245003.out⟩, ⟨by (with_reducible repeat (first | refine blk_drewN ?_ _ | refine blk_drew ?_ | refine blk_alloc ?_ _)); exact BK212.out⟩, ⟨by (with_reducible repeat (first | refine blk_drewN ?_ _ | refine blk_drew ?_ | refine blk_alloc ?_ _)); exact BK228.out⟩, ⟨by (with_reducible repeat (first | refine blk_drewN ?_ _ | refine blk_drew ?_ | refine blk_alloc ?_ _)); exact BK232.out⟩, ⟨by (with_reducible repeat (first | refine blk_drewN ?_ _ | refine blk_drew ?_ | refine blk_alloc ?_ _)); exact BK244.out⟩, ⟨by repeat (first | (with_reducible first | exact HB.out | apply below_alloc | apply pw_below_drewN | apply below_drew1 | refine below_set ?_ GE212.out | refine below_set ?_ GE228.out | refine below_set ?_ GE232.out | refine below_set ?_ GE244.out) | exact HB.out)⟩⟩
      case rest =>
       clear HC64
       try clear c1
       try clear c2
       try clear p2
       try clear c3
       try clear c3b0
       try clear c4
       try clear c5
       try clear c6
       try clear c7
       try clear c8
       try clear c9
       try clear c10
       try clear c11
       try clear c12
       try clear c13
       try clear c21
       try clear c29
       try clear c30
       try clear c35
       try clear c36
       try clear c37
       try clear c42
       try clear c43
       try clear c44
       try clear c45
       try clear c47
       try clear c48
       try clear c51
       try clear c52
       try clear c53
       try clear c55
       try clear c56
       try clear c59
       try clear c62
       try clear c69
       try clear c70
       try clear c71
       try clear c74
       try clear c74b0
       try clear c74b1
       try clear c76
       try clear c77
       try clear c78
       try clear c79
       try clear c81
       try clear c82
       try clear c85
       try clear c86
       try clear c87
       try clear c89
       try clear c90
       try clear hcz13_0
       try clear hcz15_0
       try clear hcz22_0
       try clear hcz22_1
       try clear hcz22_2
       try clear hcz22_3
       try clear hcz25_0
       try clear hcz31_0
       try clear hcz38_0
       try clear hcz38_1
       try clear hcz38_2
       try clear hcz38_3
       try clear hcz46_0
       try clear hcz46_1
       try clear hcz46_2
       try clear hcz46_3
       try clear hcz49_0
       try clear hcz49_1
       try clear hcz49_2
       try clear hcz49_3
       try clear hcz54_0
       try clear hcz54_1
       try clear hcz54_2
       try clear hcz54_3
       try clear hcz57_0
       try clear hcz57_1
       try clear hcz57_2
       try clear hcz57_3
       try clear hcz5_0
       try clear hcz72_0
       try clear hcz80_0
       try clear hcz80_1
       try clear hcz80_2
       try clear hcz80_3
       try clear hcz83_0
       try clear hcz83_1
       try clear hcz83_2
       try clear hcz83_3
       try clear hcz88_0
       try clear hcz88_1
       try clear hcz88_2
       try clear hcz88_3
       try clear hcz91_0
       try clear hcz91_1
       try clear hcz91_2
       try clear hcz91_3
       try clear hfz13_0
       try clear hfz15_0
       try clear hfz22_0
       try clear hfz22_1
       try clear hfz22_2
       try clear hfz22_3
       try clear hfz25_0
       try clear hfz31_0
       try clear hfz38_0
       try clear hfz38_1
       try clear hfz38_2
       try clear hfz38_3
       try clear hfz46_0
       try clear hfz46_1
       try clear hfz46_2
       try clear hfz46_3
       try clear hfz49_0
       try clear hfz49_1
       try clear hfz49_2
       try clear hfz49_3
       try clear hfz54_0
       try clear hfz54_1
       try clear hfz54_2
       try clear hfz54_3
       try clear hfz57_0
       try clear hfz57_1
       try clear hfz57_2
       try clear hfz57_3
       try clear hfz5_0
       try clear hfz72_0
       try clear hfz80_0
       try clear hfz80_1
       try clear hfz80_2
       try clear hfz80_3
       try clear hfz83_0
       try clear hfz83_1
       try clear hfz83_2
       try clear hfz83_3
       try clear hfz88_0
       try clear hfz88_1
       try clear hfz88_2
       try clear hfz88_3
       try clear hfz91_0
       try clear hfz91_1
       try clear hfz91_2
       try clear hfz91_3
       try clear p2
       obtain ⟨kq, x61_63, rfl, HA, HJ63, HO_229000, HO_229002, HO_229003, HO_233000, HO_245000, HO_245002, HO_245003, BK212, BK228, BK232, BK244, HB⟩ := hcut
       have hl233000_63 := (Kd.R_reads' HO_233000.out).1
       rw [hl233000_63] at HO_233000
       (try simp only [hl233000_63])
       (try simp only [hl233000_63] at BK212)
       (try simp only [hl233000_63] at BK228)
       (try simp only [hl233000_63] at BK232)
       (try simp only [hl233000_63] at BK244)
       (try simp only [hl233000_63] at HO_229000)
       (try simp only [hl233000_63] at HO_229002)
       (try simp only [hl233000_63] at HO_229003)
       (try simp only [hl233000_63] at HO_245000)
       (try simp only [hl233000_63] at HO_245002)
       (try simp only [hl233000_63] at HO_245003)
       cases kq with
       | zero => exact absurd HA.out (by simp [laws_FnExactStartWatcher.j1])
       | succ kj63 =>
        have H := HA.out
        clear HA
        simp only [laws_FnExactStartWatcher.j1] at H
        by_cases c93 : x61_63 = true
        ·subst c93
         have H1 : (some false) = some r := by rw [if_pos rfl] at H; exact H
         clear H
         have H := H1
         clear H1
         obtain rfl := Option.some.inj H
         go_wp2
         go_ret
         exact ⟨by first | rfl | (simp [errW_none, errW_some] <;> rfl) | (simp [*, errW_none, errW_some] <;> rfl), by repeat (first | (with_reducible first | exact HB.out | apply below_alloc | apply pw_below_drewN | apply below_drew1 | refine below_set ?_ GE212.out | refine below_set ?_ GE228.out | refine below_set ?_ GE232.out | refine below_set ?_ GE244.out) | exact HB.out)⟩
        ·replace c93 := Bool.eq_false_iff.mpr c93
         subst c93
         have H1 : ((laws_markWatcher.f kj63 t233 t236 t237 t240 1).bind fun bt253 => ((laws_heldWatcher.f kj63 bt253.2.1 t236 bt253.2.2 t240 1).bind fun t256 => (if t256 < 0 then (some false) else (if t256 = bt253.1 then ((laws_toQuery.f kj63 l0_0).bind fun t257 => ((impl_StartWatcher.f kj63 t257).bind fun bt260 => ((laws_eqWatcher.f kj63 bt260.1 bt260.2.1 bt260.2.2.1 bt260.2.2.2.1 t217 t220 t221 t224).bind fun t272 => (if t272 = true then (laws_FnExactStartWatcher.j2 kj63 bt253.1 (bt260.2.2.2.2 != t227) bt253.2.1 t236 bt253.2.2 t240) else (laws_FnExactStartWatcher.j2 kj63 bt253.1 true bt253.2.1 t236 bt253.2.2 t240))))) else (some false))))) = some r := by rw [if_neg (show ¬ (false = true) by decide)] at H; exact H
         clear H
         have H := H1
         clear H1
         replace H := Option.bind_eq_some_iff.mp H
         obtain ⟨⟨t253, t254, t255⟩, A940, H⟩ := H
         replace H : ((laws_heldWatcher.f kj63 t254 t236 t255 t240 1).bind fun t256 => (if t256 < 0 then (some false) else (if t256 = t253 then ((laws_toQuery.f kj63 l0_0).bind fun t257 => ((impl_StartWatcher.f kj63 t257).bind fun bt260 => ((laws_eqWatcher.f kj63 bt260.1 bt260.2.1 bt260.2.2.1 bt260.2.2.2.1 t217 t220 t221 t224).bind fun t272 => (if t272 = true then (laws_FnExactStartWatcher.j2 kj63 t253 (bt260.2.2.2.2 != t227) t254 t236 t255 t240) else (laws_FnExactStartWatcher.j2 kj63 t253 true t254 t236 t255 t240))))) else (some false)))) = some r := H
         have A94 := Aside0.mk A940
         clear A940
         replace H := Option.bind_eq_some_iff.mp H
         obtain ⟨t256, A950, H⟩ := H
         replace H : (if t256 < 0 then (some false) else (if t256 = t253 then ((laws_toQuery.f kj63 l0_0).bind fun t257 => ((impl_StartWatcher.f kj63 t257).bind fun bt260 => ((laws_eqWatcher.f kj63 bt260.1 bt260.2.1 bt260.2.2.1 bt260.2.2.2.1 t217 t220 t221 t224).bind fun t272 => (if t272 = true then (laws_FnExactStartWatcher.j2 kj63 t253 (bt260.2.2.2.2 != t227) t254 t236 t255 t240) else (laws_FnExactStartWatcher.j2 kj63 t253 true t254 t236 t255 t240))))) else (some false))) = some r := H
         have A95 := Aside0.mk A950
         clear A950
         by_cases c96 : t256 < 0
         ·rw [if_pos c96] at H
          have c96b0 : decide (t256 < 0) = true := decide_eq_true c96
          clear c96
          obtain rfl := Option.some.inj H
          have hnb97 := NB244_212.out
          have hnc97 := NB212_244.out
          have hnb98 := NB244_228.out
          have hnc98 := NB228_244.out
          have hnb99 := NB244_232.out
          have hnc99 := NB232_244.out
          have hcz100_0 : wc.cell? ⟨gb244, 0, none⟩ = some (.slice Ao34 t233.length co34) := (blk_cell BK244.out 0).trans rfl
          have hcz100_1 : wc.cell? ⟨gb244, 1, none⟩ = some (.int .i64 t236) := (blk_cell BK244.out 1).trans rfl
          have hcz100_2 : wc.cell? ⟨gb244, 2, none⟩ = some (.slice Ao39 t237.length co39) := (blk_cell BK244.out 2).trans rfl
          have hcz100_3 : wc.cell? ⟨gb244, 3, none⟩ = some (.slice Ao40 t240.length co40) := (blk_cell BK244.out 3).trans rfl
          have hfz100_0 := blk_frozen BK244.out 0
          have hfz100_1 := blk_frozen BK244.out 1
          have hfz100_2 := blk_frozen BK244.out 2
          have hfz100_3 := blk_frozen BK244.out 3
          go_wp2_with (first | ((with_reducible refine gate_callee (f := 14) rfl ?_); refine goesL_ (some 64) rfl rfl Try.func14 (by kernel_rfl) rfl #[.agg #[.slice Ao34 t233.length co34, .int .i64 t236, .slice Ao39 t237.length co39, .slice Ao40 t240.length co40], .int .i64 1] rfl (by (try simp only [List.map_toArray, List.map_cons, List.map_nil]); first | done | rfl | (simp only [List.length_drop, List.length_take]; rfl)) ?_; (with_reducible refine (laws_markWatcher.calls kj63 (fun k_ => some k_ = (.slice Ao34 t233.length co34 : Value).ownBlock) (.slice Ao34 t233.length co34) t233 t236 (fun k_ => some k_ = (.slice Ao39 t237.length co39 : Value).ownBlock) (.slice Ao39 t237.length co39) t237 _ _ t240 1 t253 t254 t255 w _ ?side1 ?side2 ?side3 ?side4 ?side5 A94.out).mono ?_); (case side1 => repeat (first | (with_reducible first | exact HB.out | apply below_alloc | apply pw_below_drewN | apply below_drew1 | refine below_set ?_ GE212.out | refine below_set ?_ GE228.out | refine below_set ?_ GE232.out | refine below_set ?_ GE244.out) | exact HB.out)); (case side2 => exact Kd.R_tight rfl HO_245000.out); (case side3 => exact Kd.R_tight rfl HO_245002.out); (case side4 => exact Kd.C_kept_own ((Kd.S_R (Kd.S_apart' HO_245003.out (Kd.R_typed HO_245000.out) (by decide)))) (fun k_ hk_ hs_ => Or.elim hs_ (fun e_ => (hk_.2) e_) (fun e_ => (hk_.1.2.2) e_))); (case side5 => exact (Kd.S_reads' HO_245003.out).2.1); rintro e w101 ⟨rfl, hy0, hy1, hb, hkp⟩; refine ⟨_, rfl, ?_⟩; have n0_ := Aside0.mk (Kd.R_mono (ok' := fun k_ => some k_ ≠ (.slice Ao28 t251.length co28 : Value).ownBlock ∧ some k_ ≠ (.slice Ao34 t233.length co34 : Value).ownBlock) (Kd.R_keptB ((Kd.R_apart' HO_229000.out (Kd.R_typed HO_245002.out) (by decide))) hkp (fun k_ hk_ hs_ => Or.elim hs_ (fun e_ => (hk_.1.2) e_) (fun e_ => (hk_.2) e_))) (fun k_ hk_ => ⟨hk_.1.1.1, hk_.1.1.2⟩)); have n1_ := Aside0.mk (Kd.R_mono (ok' := fun k_ => some k_ ≠ (.slice Ao39 t237.length co39 : Value).ownBlock) (Kd.R_keptB ((Kd.R_apart' HO_229002.out (Kd.R_typed HO_245000.out) (by decide))) hkp (fun k_ hk_ hs_ => Or.elim hs_ (fun e_ => (hk_.2) e_) (fun e_ => (hk_.1) e_))) (fun k_ hk_ => hk_.1.1)); have n2_ := Aside0.mk (Kd.S_mono (ok' := fun k_ => some k_ ≠ (.slice Ao23 t221.length co23 : Value).ownBlock ∧ some k_ ≠ (.slice Ao39 t237.length co39 : Value).ownBlock ∧ some k_ ≠ (.slice Ao40 t240.length co40 : Value).ownBlock) (Kd.S_keptB ((Kd.S_apart' HO_229003.out (Kd.R_typed HO_245000.out) (by decide))) hkp (fun k_ hk_ hs_ => Or.elim hs_ (fun e_ => (hk_.2) e_) (fun e_ => (hk_.1.2.1) e_))) (fun k_ hk_ => ⟨hk_.1.1.1, hk_.1.1.2.1, hk_.1.1.2.2⟩)); have n3_ := Aside0.mk (Kd.R_mono (ok' := fun k_ => some k_ ≠ (.slice Ao20 t217.length co20 : Value).ownBlock ∧ some k_ ≠ (.slice Ao34 t233.length co34 : Value).ownBlock) (Kd.R_keptB ((Kd.R_apart' HO_233000.out (Kd.R_typed HO_245002.out) (by decide))) hkp (fun k_ hk_ hs_ => Or.elim hs_ (fun e_ => (hk_.1.2) e_) (fun e_ => (hk_.2) e_))) (fun k_ hk_ => ⟨hk_.1.1.1, hk_.1.1.2⟩)); have n4_ := Aside0.mk (Kd.R_reok rfl hy0 (fun k_ e_ => HO_245000.out.1 k_ e_)); have n5_ := Aside0.mk (Kd.R_reok rfl hy1 (fun k_ e_ => HO_245002.out.1 k_ e_)); have n6_ := Aside0.mk (Kd.S_mono (ok' := fun k_ => some k_ ≠ (.slice Ao23 t221.length co23 : Value).ownBlock ∧ some k_ ≠ (.slice Ao24 t224.length co24 : Value).ownBlock ∧ some k_ ≠ (.slice Ao39 t237.length co39 : Value).ownBlock) (Kd.S_keptB ((Kd.S_apart' HO_245003.out (Kd.R_typed HO_245000.out) (by decide))) hkp (fun k_ hk_ hs_ => Or.elim hs_ (fun e_ => (hk_.2) e_) (fun e_ => (hk_.1.2.2) e_))) (fun k_ hk_ => ⟨hk_.1.1.1, hk_.1.1.2.1, hk_.1.1.2.2⟩)); have n7_ := Aside0.mk (blk_kept (by (with_reducible repeat (first | refine blk_drewN ?_ _ | refine blk_drew ?_ | refine blk_alloc ?_ _)); exact BK212.out) hkp (fun hs_ => Or.elim hs_ (fun e_ => (fun e_ => (Kd.R_ne HO_245000.out BK212.out (by decide)) e_) e_) (fun e_ => (fun e_ => (Kd.R_ne HO_245002.out BK212.out (by decide)) e_) e_))); have n8_ := Aside0.mk (blk_kept (by (with_reducible repeat (first | refine blk_drewN ?_ _ | refine blk_drew ?_ | refine blk_alloc ?_ _)); exact BK228.out) hkp (fun hs_ => Or.elim hs_ (fun e_ => (fun e_ => (Kd.R_ne HO_245000.out BK228.out (by decide)) e_) e_) (fun e_ => (fun e_ => (Kd.R_ne HO_245002.out BK228.out (by decide)) e_) e_))); have n9_ := Aside0.mk (blk_kept (by (with_reducible repeat (first | refine blk_drewN ?_ _ | refine blk_drew ?_ | refine blk_alloc ?_ _)); exact BK232.out) hkp (fun hs_ => Or.elim hs_ (fun e_ => (fun e_ => (Kd.R_ne HO_245000.out BK232.out (by decide)) e_) e_) (fun e_ => (fun e_ => (Kd.R_ne HO_245002.out BK232.out (by decide)) e_) e_))); have n10_ := Aside0.mk (blk_kept (by (with_reducible repeat (first | refine blk_drewN ?_ _ | refine blk_drew ?_ | refine blk_alloc ?_ _)); exact BK244.out) hkp (fun hs_ => Or.elim hs_ (fun e_ => (fun e_ => (Kd.R_ne HO_245000.out BK244.out (by decide)) e_) e_) (fun e_ => (fun e_ => (Kd.R_ne HO_245002.out BK244.out (by decide)) e_) e_))); have n11_ := Aside0.mk (hb); clear HO_229000; clear HO_229002; clear HO_229003; clear HO_233000; clear HO_245000; clear HO_245002; clear HO_245003; clear BK212; clear BK228; clear BK232; clear BK244; clear HB; have HO_229000 := n0_; have HO_229002 := n1_; have HO_229003 := n2_; have HO_233000 := n3_; have HO_245000 := n4_; have HO_245002 := n5_; have HO_245003 := n6_; have BK212 := n7_; have BK228 := n8_; have BK232 := n9_; have BK244 := n10_; have HB := n11_; clear n0_ n1_ n2_ n3_ n4_ n5_ n6_ n7_ n8_ n9_ n10_ n11_; (try clear hb); (try clear hkp); (try clear hy0); (try clear hy1); have hcz102_0 : w101.cell? ⟨gb244, 0, none⟩ = some (.slice Ao34 t233.length co34) := (blk_cell BK244.out 0).trans rfl; have hcz102_1 : w101.cell? ⟨gb244, 1, none⟩ = some (.int .i64 t236) := (blk_cell BK244.out 1).trans rfl; have hcz102_2 : w101.cell? ⟨gb244, 2, none⟩ = some (.slice Ao39 t237.length co39) := (blk_cell BK244.out 2).trans rfl; have hcz102_3 : w101.cell? ⟨gb244, 3, none⟩ = some (.slice Ao40 t240.length co40) := (blk_cell BK244.out 3).trans rfl; have hfz102_0 := blk_frozen BK244.out 0; have hfz102_1 := blk_frozen BK244.out 1; have hfz102_2 := blk_frozen BK244.out 2; have hfz102_3 := blk_frozen BK244.out 3) | ((with_reducible refine gate_callee (f := 15) rfl ?_); refine goesL_ (some 67) rfl rfl Try.func15 (by kernel_rfl) rfl #[.agg #[.slice Ao34 t254.length co34, .int .i64 t236, .slice Ao39 t255.length co39, .slice Ao40 t240.length co40], .int .i64 1] rfl (by (try simp only [List.map_toArray, List.map_cons, List.map_nil]); first | done | (rw [show t254.length = t233.length from (Kd.R_reads' HO_245000.out).1.symm, show t255.length = t237.length from (Kd.R_reads' HO_245002.out).1.symm] <;> rfl) | rfl | (simp only [List.length_drop, List.length_take]; rfl)) ?_; (with_reducible refine (laws_heldWatcher.calls kj63 _ _ t254 t236 _ _ t255 _ _ t240 1 t256 _ ?side1 ?side2 ?side3 ?side4 ?side5 ?side6 A95.out).mono ?_); (case side1 => repeat (first | exact (Kd.R_reads' HO_245000.out).2.2 | (with_reducible refine Kd.C_alloc ?_ _) | (with_reducible refine Kd.C_drewN ?_ _) | (with_reducible refine Kd.C_drew ?_))); (case side2 => rw [show t254.length = t233.length from (Kd.R_reads' HO_245000.out).1.symm]; exact (Kd.R_reads' HO_245000.out).2.1); (case side3 => repeat (first | exact (Kd.R_reads' HO_245002.out).2.2 | (with_reducible refine Kd.C_alloc ?_ _) | (with_reducible refine Kd.C_drewN ?_ _) | (with_reducible refine Kd.C_drew ?_))); (case side4 => rw [show t255.length = t237.length from (Kd.R_reads' HO_245002.out).1.symm]; exact (Kd.R_reads' HO_245002.out).2.1); (case side5 => repeat (first | exact (Kd.S_reads' HO_245003.out).2.2 | (with_reducible refine Kd.C_alloc ?_ _) | (with_reducible refine Kd.C_drewN ?_ _) | (with_reducible refine Kd.C_drew ?_))); (case side6 => exact (Kd.S_reads' HO_245003.out).2.1); rintro e w103 ⟨rfl, hb⟩; refine ⟨_, rfl, ?_⟩; have n0_ := Aside0.mk (Kd.R_below (by (with_reducible repeat (first | apply Kd.R_alloc | apply Kd.R_drewN | apply Kd.R_drew)); exact HO_229000.out) hb); have n1_ := Aside0.mk (Kd.R_below (by (with_reducible repeat (first | apply Kd.R_alloc | apply Kd.R_drewN | apply Kd.R_drew)); exact HO_229002.out) hb); have n2_ := Aside0.mk (Kd.S_below (by (with_reducible repeat (first | apply Kd.S_alloc | apply Kd.S_drewN | apply Kd.S_drew)); exact HO_229003.out) hb); have n3_ := Aside0.mk (Kd.R_below (by (with_reducible repeat (first | apply Kd.R_alloc | apply Kd.R_drewN | apply Kd.R_drew)); exact HO_233000.out) hb); have n4_ := Aside0.mk (Kd.R_below (by (with_reducible repeat (first | apply Kd.R_alloc | apply Kd.R_drewN | apply Kd.R_drew)); exact HO_245000.out) hb); have n5_ := Aside0.mk (Kd.R_below (by (with_reducible repeat (first | apply Kd.R_alloc | apply Kd.R_drewN | apply Kd.R_drew)); exact HO_245002.out) hb); have n6_ := Aside0.mk (Kd.S_below (by (with_reducible repeat (first | apply Kd.S_alloc | apply Kd.S_drewN | apply Kd.S_drew)); exact HO_245003.out) hb); have n7_ := Aside0.mk (blk_below (g := gb212) (o := .cells #[.slice A0_0 l0_0.length c0_0] 24 (0, 0)) (by (with_reducible repeat (first | refine blk_drewN ?_ _ | refine blk_drew ?_ | refine blk_alloc ?_ _)); exact BK212.out) hb); have n8_ := Aside0.mk (blk_below (g := gb228) (o := .cells #[.slice Ao20 t217.length co20, .int .i64 t220, .slice Ao23 t221.length co23, .slice Ao24 t224.length co24] 37 (0, 0)) (by (with_reducible repeat (first | refine blk_drewN ?_ _ | refine blk_drew ?_ | refine blk_alloc ?_ _)); exact BK228.out) hb); have n9_ := Aside0.mk (blk_below (g := gb232) (o := .cells #[.slice Ao28 t251.length co28] 30 (0, 0)) (by (with_reducible repeat (first | refine blk_drewN ?_ _ | refine blk_drew ?_ | refine blk_alloc ?_ _)); exact BK232.out) hb); have n10_ := Aside0.mk (blk_below (g := gb244) (o := .cells #[.slice Ao34 t233.length co34, .int .i64 t236, .slice Ao39 t237.length co39, .slice Ao40 t240.length co40] 37 (0, 0)) (by (with_reducible repeat (first | refine blk_drewN ?_ _ | refine blk_drew ?_ | refine blk_alloc ?_ _)); exact BK244.out) hb); have n11_ := Aside0.mk (below_step (by repeat (first | (with_reducible first | exact HB.out | apply below_alloc | apply pw_below_drewN | apply below_drew1 | refine below_set ?_ GE212.out | refine below_set ?_ GE228.out | refine below_set ?_ GE232.out | refine below_set ?_ GE244.out) | exact HB.out)) hb); clear HO_229000; clear HO_229002; clear HO_229003; clear HO_233000; clear HO_245000; clear HO_245002; clear HO_245003; clear BK212; clear BK228; clear BK232; clear BK244; clear HB; have HO_229000 := n0_; have HO_229002 := n1_; have HO_229003 := n2_; have HO_233000 := n3_; have HO_245000 := n4_; have HO_245002 := n5_; have HO_245003 := n6_; have BK212 := n7_; have BK228 := n8_; have BK232 := n9_; have BK244 := n10_; have HB := n11_; clear n0_ n1_ n2_ n3_ n4_ n5_ n6_ n7_ n8_ n9_ n10_ n11_; (try clear hb); (try clear hb2); (try clear hk); (try clear hi)))
          go_ret
          exact ⟨by first | rfl | (simp [errW_none, errW_some] <;> rfl) | (simp [*, errW_none, errW_some] <;> rfl), by repeat (first | (with_reducible first | exact HB.out | apply below_alloc | apply pw_below_drewN | apply below_drew1 | refine below_set ?_ GE212.out | refine below_set ?_ GE228.out | refine below_set ?_ GE232.out | refine below_set ?_ GE244.out) | exact HB.out)⟩
         ·rw [if_neg c96] at H
          have c96b0 : decide (t256 < 0) = false := decide_eq_false c96
          clear c96
          by_cases c104 : t256 = t253
          ·rw [if_pos c104] at H
           have c104b0 : (t256 == t253) = true := beq_iff_eq.mpr c104
           have c104b1 : (t256 != t253) = false := bne_eq_false_iff_eq.mpr c104
           clear c104
           replace H := Option.bind_eq_some_iff.mp H
           obtain ⟨t257, A1050, H⟩ := H
           replace H : ((impl_StartWatcher.f kj63 t257).bind fun bt260 => ((laws_eqWatcher.f kj63 bt260.1 bt260.2.1 bt260.2.2.1 bt260.2.2.2.1 t217 t220 t221 t224).bind fun t272 => (if t272 = true then (laws_FnExactStartWatcher.j2 kj63 t253 (bt260.2.2.2.2 != t227) t254 t236 t255 t240) else (laws_FnExactStartWatcher.j2 kj63 t253 true t254 t236 t255 t240)))) = some r := H
           have A105 := Aside0.mk A1050
           clear A1050
           replace H := Option.bind_eq_some_iff.mp H
           obtain ⟨⟨t260, t263, t264, t267, t270⟩, A1060, H⟩ := H
           replace H : ((laws_eqWatcher.f kj63 t260 t263 t264 t267 t217 t220 t221 t224).bind fun t272 => (if t272 = true then (laws_FnExactStartWatcher.j2 kj63 t253 (t270 != t227) t254 t236 t255 t240) else (laws_FnExactStartWatcher.j2 kj63 t253 true t254 t236 t255 t240))) = some r := H
           have A106 := Aside0.mk A1060
           clear A1060
           have HC107 := Aside0.mk H
           clear H
           have hnb108 := NB244_212.out
           have hnc108 := NB212_244.out
           have hnb109 := NB244_228.out
           have hnc109 := NB228_244.out
           have hnb110 := NB244_232.out
           have hnc110 := NB232_244.out
           have hcz111_0 : wc.cell? ⟨gb244, 0, none⟩ = some (.slice Ao34 t233.length co34) := (blk_cell BK244.out 0).trans rfl
           have hcz111_1 : wc.cell? ⟨gb244, 1, none⟩ = some (.int .i64 t236) := (blk_cell BK244.out 1).trans rfl
           have hcz111_2 : wc.cell? ⟨gb244, 2, none⟩ = some (.slice Ao39 t237.length co39) := (blk_cell BK244.out 2).trans rfl
           have hcz111_3 : wc.cell? ⟨gb244, 3, none⟩ = some (.slice Ao40 t240.length co40) := (blk_cell BK244.out 3).trans rfl
           have hfz111_0 := blk_frozen BK244.out 0
           have hfz111_1 := blk_frozen BK244.out 1
           have hfz111_2 := blk_frozen BK244.out 2
           have hfz111_3 := blk_frozen BK244.out 3
           go_upto_region 25 with (first | ((with_reducible refine gate_callee (f := 14) rfl ?_); refine goesL_ (some 64) rfl rfl Try.func14 (by kernel_rfl) rfl #[.agg #[.slice Ao34 t233.length co34, .int .i64 t236, .slice Ao39 t237.length co39, .slice Ao40 t240.length co40], .int .i64 1] rfl (by (try simp only [List.map_toArray, List.map_cons, List.map_nil]); first | done | rfl | (simp only [List.length_drop, List.length_take]; rfl)) ?_; (with_reducible refine (laws_markWatcher.calls kj63 (fun k_ => some k_ = (.slice Ao34 t233.length co34 : Value).ownBlock) (.slice Ao34 t233.length co34) t233 t236 (fun k_ => some k_ = (.slice Ao39 t237.length co39 : Value).ownBlock) (.slice Ao39 t237.length co39) t237 _ _ t240 1 t253 t254 t255 w _ ?side1 ?side2 ?side3 ?side4 ?side5 A94.out).mono ?_); (case side1 => repeat (first | (with_reducible first | exact HB.out | apply below_alloc | apply pw_below_drewN | apply below_drew1 | refine below_set ?_ GE212.out | refine below_set ?_ GE228.out | refine below_set ?_ GE232.out | refine below_set ?_ GE244.out) | exact HB.out)); (case side2 => exact Kd.R_tight rfl HO_245000.out); (case side3 => exact Kd.R_tight rfl HO_245002.out); (case side4 => exact Kd.C_kept_own ((Kd.S_R (Kd.S_apart' HO_245003.out (Kd.R_typed HO_245000.out) (by decide)))) (fun k_ hk_ hs_ => Or.elim hs_ (fun e_ => (hk_.2) e_) (fun e_ => (hk_.1.2.2) e_))); (case side5 => exact (Kd.S_reads' HO_245003.out).2.1); rintro e w112 ⟨rfl, hy0, hy1, hb, hkp⟩; refine ⟨_, rfl, ?_⟩; have n0_ := Aside0.mk (Kd.R_mono (ok' := fun k_ => some k_ ≠ (.slice Ao28 t251.length co28 : Value).ownBlock ∧ some k_ ≠ (.slice Ao34 t233.length co34 : Value).ownBlock) (Kd.R_keptB ((Kd.R_apart' HO_229000.out (Kd.R_typed HO_245002.out) (by decide))) hkp (fun k_ hk_ hs_ => Or.elim hs_ (fun e_ => (hk_.1.2) e_) (fun e_ => (hk_.2) e_))) (fun k_ hk_ => ⟨hk_.1.1.1, hk_.1.1.2⟩)); have n1_ := Aside0.mk (Kd.R_mono (ok' := fun k_ => some k_ ≠ (.slice Ao39 t237.length co39 : Value).ownBlock) (Kd.R_keptB ((Kd.R_apart' HO_229002.out (Kd.R_typed HO_245000.out) (by decide))) hkp (fun k_ hk_ hs_ => Or.elim hs_ (fun e_ => (hk_.2) e_) (fun e_ => (hk_.1) e_))) (fun k_ hk_ => hk_.1.1)); have n2_ := Aside0.mk (Kd.S_mono (ok' := fun k_ => some k_ ≠ (.slice Ao23 t221.length co23 : Value).ownBlock ∧ some k_ ≠ (.slice Ao39 t237.length co39 : Value).ownBlock ∧ some k_ ≠ (.slice Ao40 t240.length co40 : Value).ownBlock) (Kd.S_keptB ((Kd.S_apart' HO_229003.out (Kd.R_typed HO_245000.out) (by decide))) hkp (fun k_ hk_ hs_ => Or.elim hs_ (fun e_ => (hk_.2) e_) (fun e_ => (hk_.1.2.1) e_))) (fun k_ hk_ => ⟨hk_.1.1.1, hk_.1.1.2.1, hk_.1.1.2.2⟩)); have n3_ := Aside0.mk (Kd.R_mono (ok' := fun k_ => some k_ ≠ (.slice Ao20 t217.length co20 : Value).ownBlock ∧ some k_ ≠ (.slice Ao34 t233.length co34 : Value).ownBlock) (Kd.R_keptB ((Kd.R_apart' HO_233000.out (Kd.R_typed HO_245002.out) (by decide))) hkp (fun k_ hk_ hs_ => Or.elim hs_ (fun e_ => (hk_.1.2) e_) (fun e_ => (hk_.2) e_))) (fun k_ hk_ => ⟨hk_.1.1.1, hk_.1.1.2⟩)); have n4_ := Aside0.mk (Kd.R_reok rfl hy0 (fun k_ e_ => HO_245000.out.1 k_ e_)); have n5_ := Aside0.mk (Kd.R_reok rfl hy1 (fun k_ e_ => HO_245002.out.1 k_ e_)); have n6_ := Aside0.mk (Kd.S_mono (ok' := fun k_ => some k_ ≠ (.slice Ao23 t221.length co23 : Value).ownBlock ∧ some k_ ≠ (.slice Ao24 t224.length co24 : Value).ownBlock ∧ some k_ ≠ (.slice Ao39 t237.length co39 : Value).ownBlock) (Kd.S_keptB ((Kd.S_apart' HO_245003.out (Kd.R_typed HO_245000.out) (by decide))) hkp (fun k_ hk_ hs_ => Or.elim hs_ (fun e_ => (hk_.2) e_) (fun e_ => (hk_.1.2.2) e_))) (fun k_ hk_ => ⟨hk_.1.1.1, hk_.1.1.2.1, hk_.1.1.2.2⟩)); have n7_ := Aside0.mk (blk_kept (by (with_reducible repeat (first | refine blk_drewN ?_ _ | refine blk_drew ?_ | refine blk_alloc ?_ _)); exact BK212.out) hkp (fun hs_ => Or.elim hs_ (fun e_ => (fun e_ => (Kd.R_ne HO_245000.out BK212.out (by decide)) e_) e_) (fun e_ => (fun e_ => (Kd.R_ne HO_245002.out BK212.out (by decide)) e_) e_))); have n8_ := Aside0.mk (blk_kept (by (with_reducible repeat (first | refine blk_drewN ?_ _ | refine blk_drew ?_ | refine blk_alloc ?_ _)); exact BK228.out) hkp (fun hs_ => Or.elim hs_ (fun e_ => (fun e_ => (Kd.R_ne HO_245000.out BK228.out (by decide)) e_) e_) (fun e_ => (fun e_ => (Kd.R_ne HO_245002.out BK228.out (by decide)) e_) e_))); have n9_ := Aside0.mk (blk_kept (by (with_reducible repeat (first | refine blk_drewN ?_ _ | refine blk_drew ?_ | refine blk_alloc ?_ _)); exact BK232.out) hkp (fun hs_ => Or.elim hs_ (fun e_ => (fun e_ => (Kd.R_ne HO_245000.out BK232.out (by decide)) e_) e_) (fun e_ => (fun e_ => (Kd.R_ne HO_245002.out BK232.out (by decide)) e_) e_))); have n10_ := Aside0.mk (blk_kept (by (with_reducible repeat (first | refine blk_drewN ?_ _ | refine blk_drew ?_ | refine blk_alloc ?_ _)); exact BK244.out) hkp (fun hs_ => Or.elim hs_ (fun e_ => (fun e_ => (Kd.R_ne HO_245000.out BK244.out (by decide)) e_) e_) (fun e_ => (fun e_ => (Kd.R_ne HO_245002.out BK244.out (by decide)) e_) e_))); have n11_ := Aside0.mk (hb); clear HO_229000; clear HO_229002; clear HO_229003; clear HO_233000; clear HO_245000; clear HO_245002; clear HO_245003; clear BK212; clear BK228; clear BK232; clear BK244; clear HB; have HO_229000 := n0_; have HO_229002 := n1_; have HO_229003 := n2_; have HO_233000 := n3_; have HO_245000 := n4_; have HO_245002 := n5_; have HO_245003 := n6_; have BK212 := n7_; have BK228 := n8_; have BK232 := n9_; have BK244 := n10_; have HB := n11_; clear n0_ n1_ n2_ n3_ n4_ n5_ n6_ n7_ n8_ n9_ n10_ n11_; (try clear hb); (try clear hkp); (try clear hy0); (try clear hy1); have hcz113_0 : w112.cell? ⟨gb244, 0, none⟩ = some (.slice Ao34 t233.length co34) := (blk_cell BK244.out 0).trans rfl; have hcz113_1 : w112.cell? ⟨gb244, 1, none⟩ = some (.int .i64 t236) := (blk_cell BK244.out 1).trans rfl; have hcz113_2 : w112.cell? ⟨gb244, 2, none⟩ = some (.slice Ao39 t237.length co39) := (blk_cell BK244.out 2).trans rfl; have hcz113_3 : w112.cell? ⟨gb244, 3, none⟩ = some (.slice Ao40 t240.length co40) := (blk_cell BK244.out 3).trans rfl; have hfz113_0 := blk_frozen BK244.out 0; have hfz113_1 := blk_frozen BK244.out 1; have hfz113_2 := blk_frozen BK244.out 2; have hfz113_3 := blk_frozen BK244.out 3) | ((with_reducible refine gate_callee (f := 15) rfl ?_); refine goesL_ (some 67) rfl rfl Try.func15 (by kernel_rfl) rfl #[.agg #[.slice Ao34 t254.length co34, .int .i64 t236, .slice Ao39 t255.length co39, .slice Ao40 t240.length co40], .int .i64 1] rfl (by (try simp only [List.map_toArray, List.map_cons, List.map_nil]); first | done | (rw [show t254.length = t233.length from (Kd.R_reads' HO_245000.out).1.symm, show t255.length = t237.length from (Kd.R_reads' HO_245002.out).1.symm] <;> rfl) | rfl | (simp only [List.length_drop, List.length_take]; rfl)) ?_; (with_reducible refine (laws_heldWatcher.calls kj63 _ _ t254 t236 _ _ t255 _ _ t240 1 t256 _ ?side1 ?side2 ?side3 ?side4 ?side5 ?side6 A95.out).mono ?_); (case side1 => repeat (first | exact (Kd.R_reads' HO_245000.out).2.2 | (with_reducible refine Kd.C_alloc ?_ _) | (with_reducible refine Kd.C_drewN ?_ _) | (with_reducible refine Kd.C_drew ?_))); (case side2 => rw [show t254.length = t233.length from (Kd.R_reads' HO_245000.out).1.symm]; exact (Kd.R_reads' HO_245000.out).2.1); (case side3 => repeat (first | exact (Kd.R_reads' HO_245002.out).2.2 | (with_reducible refine Kd.C_alloc ?_ _) | (with_reducible refine Kd.C_drewN ?_ _) | (with_reducible refine Kd.C_drew ?_))); (case side4 => rw [show t255.length = t237.length from (Kd.R_reads' HO_245002.out).1.symm]; exact (Kd.R_reads' HO_245002.out).2.1); (case side5 => repeat (first | exact (Kd.S_reads' HO_245003.out).2.2 | (with_reducible refine Kd.C_alloc ?_ _) | (with_reducible refine Kd.C_drewN ?_ _) | (with_reducible refine Kd.C_drew ?_))); (case side6 => exact (Kd.S_reads' HO_245003.out).2.1); rintro e w114 ⟨rfl, hb⟩; refine ⟨_, rfl, ?_⟩; have n0_ := Aside0.mk (Kd.R_below (by (with_reducible repeat (first | apply Kd.R_alloc | apply Kd.R_drewN | apply Kd.R_drew)); exact HO_229000.out) hb); have n1_ := Aside0.mk (Kd.R_below (by (with_reducible repeat (first | apply Kd.R_alloc | apply Kd.R_drewN | apply Kd.R_drew)); exact HO_229002.out) hb); have n2_ := Aside0.mk (Kd.S_below (by (with_reducible repeat (first | apply Kd.S_alloc | apply Kd.S_drewN | apply Kd.S_drew)); exact HO_229003.out) hb); have n3_ := Aside0.mk (Kd.R_below (by (with_reducible repeat (first | apply Kd.R_alloc | apply Kd.R_drewN | apply Kd.R_drew)); exact HO_233000.out) hb); have n4_ := Aside0.mk (Kd.R_below (by (with_reducible repeat (first | apply Kd.R_alloc | apply Kd.R_drewN | apply Kd.R_drew)); exact HO_245000.out) hb); have n5_ := Aside0.mk (Kd.R_below (by (with_reducible repeat (first | apply Kd.R_alloc | apply Kd.R_drewN | apply Kd.R_drew)); exact HO_245002.out) hb); have n6_ := Aside0.mk (Kd.S_below (by (with_reducible repeat (first | apply Kd.S_alloc | apply Kd.S_drewN | apply Kd.S_drew)); exact HO_245003.out) hb); have n7_ := Aside0.mk (blk_below (g := gb212) (o := .cells #[.slice A0_0 l0_0.length c0_0] 24 (0, 0)) (by (with_reducible repeat (first | refine blk_drewN ?_ _ | refine blk_drew ?_ | refine blk_alloc ?_ _)); exact BK212.out) hb); have n8_ := Aside0.mk (blk_below (g := gb228) (o := .cells #[.slice Ao20 t217.length co20, .int .i64 t220, .slice Ao23 t221.length co23, .slice Ao24 t224.length co24] 37 (0, 0)) (by (with_reducible repeat (first | refine blk_drewN ?_ _ | refine blk_drew ?_ | refine blk_alloc ?_ _)); exact BK228.out) hb); have n9_ := Aside0.mk (blk_below (g := gb232) (o := .cells #[.slice Ao28 t251.length co28] 30 (0, 0)) (by (with_reducible repeat (first | refine blk_drewN ?_ _ | refine blk_drew ?_ | refine blk_alloc ?_ _)); exact BK232.out) hb); have n10_ := Aside0.mk (blk_below (g := gb244) (o := .cells #[.slice Ao34 t233.length co34, .int .i64 t236, .slice Ao39 t237.length co39, .slice Ao40 t240.length co40] 37 (0, 0)) (by (with_reducible repeat (first | refine blk_drewN ?_ _ | refine blk_drew ?_ | refine blk_alloc ?_ _)); exact BK244.out) hb); have n11_ := Aside0.mk (below_step (by repeat (first | (with_reducible first | exact HB.out | apply below_alloc | apply pw_below_drewN | apply below_drew1 | refine below_set ?_ GE212.out | refine below_set ?_ GE228.out | refine below_set ?_ GE232.out | refine below_set ?_ GE244.out) | exact HB.out)) hb); clear HO_229000; clear HO_229002; clear HO_229003; clear HO_233000; clear HO_245000; clear HO_245002; clear HO_245003; clear BK212; clear BK228; clear BK232; clear BK244; clear HB; have HO_229000 := n0_; have HO_229002 := n1_; have HO_229003 := n2_; have HO_233000 := n3_; have HO_245000 := n4_; have HO_245002 := n5_; have HO_245003 := n6_; have BK212 := n7_; have BK228 := n8_; have BK232 := n9_; have BK244 := n10_; have HB := n11_; clear n0_ n1_ n2_ n3_ n4_ n5_ n6_ n7_ n8_ n9_ n10_ n11_; (try clear hb); (try clear hb2); (try clear hk); (try clear hi); have hnb115 := NB212_228.out; have hnc115 := NB228_212.out; have hnb116 := NB212_232.out; have hnc116 := NB232_212.out; have hcz117_0 : w114.cell? ⟨gb212, 0, none⟩ = some (.slice A0_0 l0_0.length c0_0) := (blk_cell BK212.out 0).trans rfl; have hfz117_0 := blk_frozen BK212.out 0) | ((with_reducible refine gate_callee (f := 7) rfl ?_); refine goesL_ (some 75) rfl rfl Try.func7 (by kernel_rfl) rfl #[.agg #[.slice A0_0 l0_0.length c0_0]] rfl (by (try simp only [List.map_toArray, List.map_cons, List.map_nil]); first | done | rfl | (simp only [List.length_drop, List.length_take]; rfl)) ?_; (with_reducible refine (laws_toQuery.calls kj63 _ _ l0_0 t257 _ ?side1 ?side2 A105.out).mono ?_); (case side1 => repeat (first | exact (Kd.C_below HR0_0.out HB.out) | (with_reducible refine Kd.C_alloc ?_ _) | (with_reducible refine Kd.C_drewN ?_ _) | (with_reducible refine Kd.C_drew ?_))); (case side2 => exact HC0_0.out); rintro e w118 ⟨v258, rfl, ho0, hb⟩; refine ⟨_, rfl, ?_⟩; have n0_ := Aside0.mk (Kd.R_elder' (by (with_reducible repeat (first | apply Kd.R_alloc | apply Kd.R_drewN | apply Kd.R_drew)); exact HO_229000.out) (Kd.R_base ho0) hb); have n1_ := Aside0.mk (Kd.R_below (by (with_reducible repeat (first | apply Kd.R_alloc | apply Kd.R_drewN | apply Kd.R_drew)); exact HO_229002.out) hb); have n2_ := Aside0.mk (Kd.S_below (by (with_reducible repeat (first | apply Kd.S_alloc | apply Kd.S_drewN | apply Kd.S_drew)); exact HO_229003.out) hb); have n3_ := Aside0.mk (Kd.R_elder' (by (with_reducible repeat (first | apply Kd.R_alloc | apply Kd.R_drewN | apply Kd.R_drew)); exact HO_233000.out) (Kd.R_base ho0) hb); have n4_ := Aside0.mk (Kd.R_elder' (by (with_reducible repeat (first | apply Kd.R_alloc | apply Kd.R_drewN | apply Kd.R_drew)); exact HO_245000.out) (Kd.R_base ho0) hb); have n5_ := Aside0.mk (Kd.R_below (by (with_reducible repeat (first | apply Kd.R_alloc | apply Kd.R_drewN | apply Kd.R_drew)); exact HO_245002.out) hb); have n6_ := Aside0.mk (Kd.S_below (by (with_reducible repeat (first | apply Kd.S_alloc | apply Kd.S_drewN | apply Kd.S_drew)); exact HO_245003.out) hb); have n7_ := Aside0.mk (Kd.R_lower (Kd.R_new' (Kd.R_new' (Kd.R_new' ho0 (Kd.R_lt (by (with_reducible repeat (first | apply Kd.R_alloc | apply Kd.R_drewN | apply Kd.R_drew)); exact HO_229000.out))) (Kd.R_lt (by (with_reducible repeat (first | apply Kd.R_alloc | apply Kd.R_drewN | apply Kd.R_drew)); exact HO_233000.out))) (Kd.R_lt (by (with_reducible repeat (first | apply Kd.R_alloc | apply Kd.R_drewN | apply Kd.R_drew)); exact HO_245000.out))) (below_size (by repeat (first | (with_reducible first | exact HB.out | apply below_alloc | apply pw_below_drewN | apply below_drew1 | refine below_set ?_ GE212.out | refine below_set ?_ GE228.out | refine below_set ?_ GE232.out | refine below_set ?_ GE244.out) | exact HB.out)))); have n8_ := Aside0.mk (blk_below (g := gb212) (o := .cells #[.slice A0_0 l0_0.length c0_0] 24 (0, 0)) (by (with_reducible repeat (first | refine blk_drewN ?_ _ | refine blk_drew ?_ | refine blk_alloc ?_ _)); exact BK212.out) hb); have n9_ := Aside0.mk (blk_below (g := gb228) (o := .cells #[.slice Ao20 t217.length co20, .int .i64 t220, .slice Ao23 t221.length co23, .slice Ao24 t224.length co24] 37 (0, 0)) (by (with_reducible repeat (first | refine blk_drewN ?_ _ | refine blk_drew ?_ | refine blk_alloc ?_ _)); exact BK228.out) hb); have n10_ := Aside0.mk (blk_below (g := gb232) (o := .cells #[.slice Ao28 t251.length co28] 30 (0, 0)) (by (with_reducible repeat (first | refine blk_drewN ?_ _ | refine blk_drew ?_ | refine blk_alloc ?_ _)); exact BK232.out) hb); have n11_ := Aside0.mk (blk_below (g := gb244) (o := .cells #[.slice Ao34 t233.length co34, .int .i64 t236, .slice Ao39 t237.length co39, .slice Ao40 t240.length co40] 37 (0, 0)) (by (with_reducible repeat (first | refine blk_drewN ?_ _ | refine blk_drew ?_ | refine blk_alloc ?_ _)); exact BK244.out) hb); have n12_ := Aside0.mk (below_step (by repeat (first | (with_reducible first | exact HB.out | apply below_alloc | apply pw_below_drewN | apply below_drew1 | refine below_set ?_ GE212.out | refine below_set ?_ GE228.out | refine below_set ?_ GE232.out | refine below_set ?_ GE244.out) | exact HB.out)) hb); clear HO_229000; clear HO_229002; clear HO_229003; clear HO_233000; clear HO_245000; clear HO_245002; clear HO_245003; clear BK212; clear BK228; clear BK232; clear BK244; clear HB; have HO_229000 := n0_; have HO_229002 := n1_; have HO_229003 := n2_; have HO_233000 := n3_; have HO_245000 := n4_; have HO_245002 := n5_; have HO_245003 := n6_; have HO259 := n7_; have BK212 := n8_; have BK228 := n9_; have BK232 := n10_; have BK244 := n11_; have HB := n12_; clear n0_ n1_ n2_ n3_ n4_ n5_ n6_ n7_ n8_ n9_ n10_ n11_ n12_; (try clear hb); (try clear hb2); (try clear hk); (try clear hi); (try clear ho0); obtain ⟨Ao119, co119, eo119⟩ := Kd.R_slice HO259.out; subst eo119) | ((with_reducible refine gate_callee (f := 11) rfl ?_); refine goesL_ (some 76) rfl rfl Try.func11 (by kernel_rfl) rfl #[.agg #[.slice Ao119 t257.length co119]] rfl (by (try simp only [List.map_toArray, List.map_cons, List.map_nil]); first | done | rfl | (simp only [List.length_drop, List.length_take]; rfl)) ?_; (with_reducible refine (impl_StartWatcher.calls kj63 _ _ t257 t260 t263 t264 t267 t270 _ ?side1 ?side2 A106.out).mono ?_); (case side1 => repeat (first | exact (Kd.R_reads' HO259.out).2.2 | (with_reducible refine Kd.C_alloc ?_ _) | (with_reducible refine Kd.C_drewN ?_ _) | (with_reducible refine Kd.C_drew ?_))); (case side2 => exact (Kd.R_reads' HO259.out).2.1); rintro e w120 ⟨v261, v265, v268, rfl, ho0, ho1, ho2, hb⟩; refine ⟨_, rfl, ?_⟩; have n0_ := Aside0.mk (Kd.R_elder' (by (with_reducible repeat (first | apply Kd.R_alloc | apply Kd.R_drewN | apply Kd.R_drew)); exact HO_229000.out) (Kd.R_base ho0) hb); have n1_ := Aside0.mk (Kd.R_elder' (by (with_reducible repeat (first | apply Kd.R_alloc | apply Kd.R_drewN | apply Kd.R_drew)); exact HO_229002.out) (Kd.R_base ho1) hb); have n2_ := Aside0.mk (Kd.S_mono (Kd.S_told (Kd.S_told (Kd.S_old (by (with_reducible repeat (first | apply Kd.S_alloc | apply Kd.S_drewN | apply Kd.S_drew)); exact HO_229003.out) hb) (Kd.R_base ho1)) (Kd.S_base ho2)) (fun _ h_ => h_.1)); have n3_ := Aside0.mk (Kd.R_elder' (by (with_reducible repeat (first | apply Kd.R_alloc | apply Kd.R_drewN | apply Kd.R_drew)); exact HO_233000.out) (Kd.R_base ho0) hb); have n4_ := Aside0.mk (Kd.R_elder' (by (with_reducible repeat (first | apply Kd.R_alloc | apply Kd.R_drewN | apply Kd.R_drew)); exact HO_245000.out) (Kd.R_base ho0) hb); have n5_ := Aside0.mk (Kd.R_elder' (by (with_reducible repeat (first | apply Kd.R_alloc | apply Kd.R_drewN | apply Kd.R_drew)); exact HO_245002.out) (Kd.R_base ho1) hb); have n6_ := Aside0.mk (Kd.S_mono (Kd.S_told (Kd.S_told (Kd.S_old (by (with_reducible repeat (first | apply Kd.S_alloc | apply Kd.S_drewN | apply Kd.S_drew)); exact HO_245003.out) hb) (Kd.R_base ho1)) (Kd.S_base ho2)) (fun _ h_ => h_.1)); have n7_ := Aside0.mk (Kd.R_elder' (by (with_reducible repeat (first | apply Kd.R_alloc | apply Kd.R_drewN | apply Kd.R_drew)); exact HO259.out) (Kd.R_base ho0) hb); have n8_ := Aside0.mk (Kd.R_lower (Kd.R_new' (Kd.R_new' (Kd.R_new' (Kd.R_new' ho0 (Kd.R_lt (by (with_reducible repeat (first | apply Kd.R_alloc | apply Kd.R_drewN | apply Kd.R_drew)); exact HO_229000.out))) (Kd.R_lt (by (with_reducible repeat (first | apply Kd.R_alloc | apply Kd.R_drewN | apply Kd.R_drew)); exact HO_233000.out))) (Kd.R_lt (by (with_reducible repeat (first | apply Kd.R_alloc | apply Kd.R_drewN | apply Kd.R_drew)); exact HO_245000.out))) (Kd.R_lt (by (with_reducible repeat (first | apply Kd.R_alloc | apply Kd.R_drewN | apply Kd.R_drew)); exact HO259.out))) (below_size (by repeat (first | (with_reducible first | exact HB.out | apply below_alloc | apply pw_below_drewN | apply below_drew1 | refine below_set ?_ GE212.out | refine below_set ?_ GE228.out | refine below_set ?_ GE232.out | refine below_set ?_ GE244.out) | exact HB.out)))); have n9_ := Aside0.mk (Kd.R_lower (Kd.R_new' (Kd.R_new' ho1 (Kd.R_lt (by (with_reducible repeat (first | apply Kd.R_alloc | apply Kd.R_drewN | apply Kd.R_drew)); exact HO_229002.out))) (Kd.R_lt (by (with_reducible repeat (first | apply Kd.R_alloc | apply Kd.R_drewN | apply Kd.R_drew)); exact HO_245002.out))) (below_size (by repeat (first | (with_reducible first | exact HB.out | apply below_alloc | apply pw_below_drewN | apply below_drew1 | refine below_set ?_ GE212.out | refine below_set ?_ GE228.out | refine below_set ?_ GE232.out | refine below_set ?_ GE244.out) | exact HB.out)))); have n10_ := Aside0.mk (Kd.S_lower (Kd.S_new' (Kd.S_new' (Kd.S_new' (Kd.S_new' ho2 (Kd.R_lt (by (with_reducible repeat (first | apply Kd.R_alloc | apply Kd.R_drewN | apply Kd.R_drew)); exact HO_229002.out))) (Kd.S_lt (by (with_reducible repeat (first | apply Kd.S_alloc | apply Kd.S_drewN | apply Kd.S_drew)); exact HO_229003.out))) (Kd.R_lt (by (with_reducible repeat (first | apply Kd.R_alloc | apply Kd.R_drewN | apply Kd.R_drew)); exact HO_245002.out))) (Kd.S_lt (by (with_reducible repeat (first | apply Kd.S_alloc | apply Kd.S_drewN | apply Kd.S_drew)); exact HO_245003.out))) (below_size (by repeat (first | (with_reducible first | exact HB.out | apply below_alloc | apply pw_below_drewN | apply below_drew1 | refine below_set ?_ GE212.out | refine below_set ?_ GE228.out | refine below_set ?_ GE232.out | refine below_set ?_ GE244.out) | exact HB.out)))); have n11_ := Aside0.mk (blk_below (g := gb212) (o := .cells #[.slice A0_0 l0_0.length c0_0] 24 (0, 0)) (by (with_reducible repeat (first | refine blk_drewN ?_ _ | refine blk_drew ?_ | refine blk_alloc ?_ _)); exact BK212.out) hb); have n12_ := Aside0.mk (blk_below (g := gb228) (o := .cells #[.slice Ao20 t217.length co20, .int .i64 t220, .slice Ao23 t221.length co23, .slice Ao24 t224.length co24] 37 (0, 0)) (by (with_reducible repeat (first | refine blk_drewN ?_ _ | refine blk_drew ?_ | refine blk_alloc ?_ _)); exact BK228.out) hb); have n13_ := Aside0.mk (blk_below (g := gb232) (o := .cells #[.slice Ao28 t251.length co28] 30 (0, 0)) (by (with_reducible repeat (first | refine blk_drewN ?_ _ | refine blk_drew ?_ | refine blk_alloc ?_ _)); exact BK232.out) hb); have n14_ := Aside0.mk (blk_below (g := gb244) (o := .cells #[.slice Ao34 t233.length co34, .int .i64 t236, .slice Ao39 t237.length co39, .slice Ao40 t240.length co40] 37 (0, 0)) (by (with_reducible repeat (first | refine blk_drewN ?_ _ | refine blk_drew ?_ | refine blk_alloc ?_ _)); exact BK244.out) hb); have n15_ := Aside0.mk (below_step (by repeat (first | (with_reducible first | exact HB.out | apply below_alloc | apply pw_below_drewN | apply below_drew1 | refine below_set ?_ GE212.out | refine below_set ?_ GE228.out | refine below_set ?_ GE232.out | refine below_set ?_ GE244.out) | exact HB.out)) hb); clear HO_229000; clear HO_229002; clear HO_229003; clear HO_233000; clear HO_245000; clear HO_245002; clear HO_245003; clear HO259; clear BK212; clear BK228; clear BK232; clear BK244; clear HB; have HO_229000 := n0_; have HO_229002 := n1_; have HO_229003 := n2_; have HO_233000 := n3_; have HO_245000 := n4_; have HO_245002 := n5_; have HO_245003 := n6_; have HO259 := n7_; have HO262 := n8_; have HO266 := n9_; have HO269 := n10_; have BK212 := n11_; have BK228 := n12_; have BK232 := n13_; have BK244 := n14_; have HB := n15_; clear n0_ n1_ n2_ n3_ n4_ n5_ n6_ n7_ n8_ n9_ n10_ n11_ n12_ n13_ n14_ n15_; (try clear hb); (try clear hb2); (try clear hk); (try clear hi); (try clear ho0); (try clear ho1); (try clear ho2)) | ((with_reducible refine gate_dst (N := 12) rfl ?_); refine box_event ?hg (N := 12) ?hd (cs := #[.slice none 0 0, .int .i64 0, .slice none 0 0, .slice none 0 0]) (t := 37) ?hr ?_; (case hd => rfl); (case hg => rfl); (case hr => first | (go_simp; done) | (go_simp; rfl)); intro gb271 hg w121 hbox hb; have n0_ := Aside0.mk (Kd.R_below (by (with_reducible repeat (first | apply Kd.R_alloc | apply Kd.R_drewN | apply Kd.R_drew)); exact HO_229000.out) hb); have n1_ := Aside0.mk (Kd.R_below (by (with_reducible repeat (first | apply Kd.R_alloc | apply Kd.R_drewN | apply Kd.R_drew)); exact HO_229002.out) hb); have n2_ := Aside0.mk (Kd.S_below (by (with_reducible repeat (first | apply Kd.S_alloc | apply Kd.S_drewN | apply Kd.S_drew)); exact HO_229003.out) hb); have n3_ := Aside0.mk (Kd.R_below (by (with_reducible repeat (first | apply Kd.R_alloc | apply Kd.R_drewN | apply Kd.R_drew)); exact HO_233000.out) hb); have n4_ := Aside0.mk (Kd.R_below (by (with_reducible repeat (first | apply Kd.R_alloc | apply Kd.R_drewN | apply Kd.R_drew)); exact HO_245000.out) hb); have n5_ := Aside0.mk (Kd.R_below (by (with_reducible repeat (first | apply Kd.R_alloc | apply Kd.R_drewN | apply Kd.R_drew)); exact HO_245002.out) hb); have n6_ := Aside0.mk (Kd.S_below (by (with_reducible repeat (first | apply Kd.S_alloc | apply Kd.S_drewN | apply Kd.S_drew)); exact HO_245003.out) hb); have n7_ := Aside0.mk (Kd.R_below (by (with_reducible repeat (first | apply Kd.R_alloc | apply Kd.R_drewN | apply Kd.R_drew)); exact HO259.out) hb); have n8_ := Aside0.mk (Kd.R_below (by (with_reducible repeat (first | apply Kd.R_alloc | apply Kd.R_drewN | apply Kd.R_drew)); exact HO262.out) hb); have n9_ := Aside0.mk (Kd.R_below (by (with_reducible repeat (first | apply Kd.R_alloc | apply Kd.R_drewN | apply Kd.R_drew)); exact HO266.out) hb); have n10_ := Aside0.mk (Kd.S_below (by (with_reducible repeat (first | apply Kd.S_alloc | apply Kd.S_drewN | apply Kd.S_drew)); exact HO269.out) hb); have n11_ := Aside0.mk (blk_below (g := gb212) (o := .cells #[.slice A0_0 l0_0.length c0_0] 24 (0, 0)) (by (with_reducible repeat (first | refine blk_drewN ?_ _ | refine blk_drew ?_ | refine blk_alloc ?_ _)); exact BK212.out) hb); have n12_ := Aside0.mk (blk_below (g := gb228) (o := .cells #[.slice Ao20 t217.length co20, .int .i64 t220, .slice Ao23 t221.length co23, .slice Ao24 t224.length co24] 37 (0, 0)) (by (with_reducible repeat (first | refine blk_drewN ?_ _ | refine blk_drew ?_ | refine blk_alloc ?_ _)); exact BK228.out) hb); have n13_ := Aside0.mk (blk_below (g := gb232) (o := .cells #[.slice Ao28 t251.length co28] 30 (0, 0)) (by (with_reducible repeat (first | refine blk_drewN ?_ _ | refine blk_drew ?_ | refine blk_alloc ?_ _)); exact BK232.out) hb); have n14_ := Aside0.mk (blk_below (g := gb244) (o := .cells #[.slice Ao34 t233.length co34, .int .i64 t236, .slice Ao39 t237.length co39, .slice Ao40 t240.length co40] 37 (0, 0)) (by (with_reducible repeat (first | refine blk_drewN ?_ _ | refine blk_drew ?_ | refine blk_alloc ?_ _)); exact BK244.out) hb); have n15_ := Aside0.mk (below_step (by repeat (first | (with_reducible first | exact HB.out | apply below_alloc | apply pw_below_drewN | apply below_drew1 | refine below_set ?_ GE212.out | refine below_set ?_ GE228.out | refine below_set ?_ GE232.out | refine below_set ?_ GE244.out) | exact HB.out)) hb); have n16_ := Aside0.mk (hbox); have n17_ := Aside0.mk ((by rw [hg]; exact (below_size (by repeat (first | (with_reducible first | exact HB.out | apply below_alloc | apply pw_below_drewN | apply below_drew1 | refine below_set ?_ GE212.out | refine below_set ?_ GE228.out | refine below_set ?_ GE232.out | refine below_set ?_ GE244.out) | exact HB.out))) : w.heap.size ≤ gb271)); have n18_ := Aside0.mk ((by rw [hg]; exact (below_size (by repeat (first | (with_reducible first | exact HB.out | apply below_alloc | apply pw_below_drewN | apply below_drew1 | refine below_set ?_ GE212.out | refine below_set ?_ GE228.out | refine below_set ?_ GE232.out | refine below_set ?_ GE244.out) | exact HB.out))) : w.heap.size ≤ gb271)); have n19_ := Aside0.mk ((by rw [hg]; exact Nat.ne_of_lt (blk_lt (g := gb212) (o := .cells #[.slice A0_0 l0_0.length c0_0] 24 (0, 0)) (by (with_reducible repeat (first | refine blk_drewN ?_ _ | refine blk_drew ?_ | refine blk_alloc ?_ _)); exact BK212.out)) : gb212 ≠ gb271)); have n20_ := Aside0.mk ((by rw [hg]; exact Nat.ne_of_gt (blk_lt (g := gb212) (o := .cells #[.slice A0_0 l0_0.length c0_0] 24 (0, 0)) (by (with_reducible repeat (first | refine blk_drewN ?_ _ | refine blk_drew ?_ | refine blk_alloc ?_ _)); exact BK212.out)) : gb271 ≠ gb212)); have n21_ := Aside0.mk ((by rw [hg]; exact Nat.ne_of_lt (blk_lt (g := gb228) (o := .cells #[.slice Ao20 t217.length co20, .int .i64 t220, .slice Ao23 t221.length co23, .slice Ao24 t224.length co24] 37 (0, 0)) (by (with_reducible repeat (first | refine blk_drewN ?_ _ | refine blk_drew ?_ | refine blk_alloc ?_ _)); exact BK228.out)) : gb228 ≠ gb271)); have n22_ := Aside0.mk ((by rw [hg]; exact Nat.ne_of_gt (blk_lt (g := gb228) (o := .cells #[.slice Ao20 t217.length co20, .int .i64 t220, .slice Ao23 t221.length co23, .slice Ao24 t224.length co24] 37 (0, 0)) (by (with_reducible repeat (first | refine blk_drewN ?_ _ | refine blk_drew ?_ | refine blk_alloc ?_ _)); exact BK228.out)) : gb271 ≠ gb228)); have n23_ := Aside0.mk ((by rw [hg]; exact Nat.ne_of_lt (blk_lt (g := gb232) (o := .cells #[.slice Ao28 t251.length co28] 30 (0, 0)) (by (with_reducible repeat (first | refine blk_drewN ?_ _ | refine blk_drew ?_ | refine blk_alloc ?_ _)); exact BK232.out)) : gb232 ≠ gb271)); have n24_ := Aside0.mk ((by rw [hg]; exact Nat.ne_of_gt (blk_lt (g := gb232) (o := .cells #[.slice Ao28 t251.length co28] 30 (0, 0)) (by (with_reducible repeat (first | refine blk_drewN ?_ _ | refine blk_drew ?_ | refine blk_alloc ?_ _)); exact BK232.out)) : gb271 ≠ gb232)); have n25_ := Aside0.mk ((by rw [hg]; exact Nat.ne_of_lt (blk_lt (g := gb244) (o := .cells #[.slice Ao34 t233.length co34, .int .i64 t236, .slice Ao39 t237.length co39, .slice Ao40 t240.length co40] 37 (0, 0)) (by (with_reducible repeat (first | refine blk_drewN ?_ _ | refine blk_drew ?_ | refine blk_alloc ?_ _)); exact BK244.out)) : gb244 ≠ gb271)); have n26_ := Aside0.mk ((by rw [hg]; exact Nat.ne_of_gt (blk_lt (g := gb244) (o := .cells #[.slice Ao34 t233.length co34, .int .i64 t236, .slice Ao39 t237.length co39, .slice Ao40 t240.length co40] 37 (0, 0)) (by (with_reducible repeat (first | refine blk_drewN ?_ _ | refine blk_drew ?_ | refine blk_alloc ?_ _)); exact BK244.out)) : gb271 ≠ gb244)); clear HO_229000; clear HO_229002; clear HO_229003; clear HO_233000; clear HO_245000; clear HO_245002; clear HO_245003; clear HO259; clear HO262; clear HO266; clear HO269; clear BK212; clear BK228; clear BK232; clear BK244; clear HB; have HO_229000 := n0_; have HO_229002 := n1_; have HO_229003 := n2_; have HO_233000 := n3_; have HO_245000 := n4_; have HO_245002 := n5_; have HO_245003 := n6_; have HO259 := n7_; have HO262 := n8_; have HO266 := n9_; have HO269 := n10_; have BK212 := n11_; have BK228 := n12_; have BK232 := n13_; have BK244 := n14_; have HB := n15_; have BK271 := n16_; have GW271 := n17_; have GE271 := n18_; have NB212_271 := n19_; have NB271_212 := n20_; have NB228_271 := n21_; have NB271_228 := n22_; have NB232_271 := n23_; have NB271_232 := n24_; have NB244_271 := n25_; have NB271_244 := n26_; clear n0_ n1_ n2_ n3_ n4_ n5_ n6_ n7_ n8_ n9_ n10_ n11_ n12_ n13_ n14_ n15_ n16_ n17_ n18_ n19_ n20_ n21_ n22_ n23_ n24_ n25_ n26_; clear hb hbox hg; obtain ⟨Ao122, co122, eo122⟩ := Kd.R_slice HO262.out; subst eo122; have hnb123 := NB271_212.out; have hnc123 := NB212_271.out; have hnb124 := NB271_228.out; have hnc124 := NB228_271.out; have hnb125 := NB271_232.out; have hnc125 := NB232_271.out; have hnb126 := NB271_244.out; have hnc126 := NB244_271.out; have hcz127_0 : w121.cell? ⟨gb271, 0, none⟩ = some (.slice none 0 0) := (blk_cell BK271.out 0).trans rfl; have hcz127_1 : w121.cell? ⟨gb271, 1, none⟩ = some (.int .i64 0) := (blk_cell BK271.out 1).trans rfl; have hcz127_2 : w121.cell? ⟨gb271, 2, none⟩ = some (.slice none 0 0) := (blk_cell BK271.out 2).trans rfl; have hcz127_3 : w121.cell? ⟨gb271, 3, none⟩ = some (.slice none 0 0) := (blk_cell BK271.out 3).trans rfl; have hfz127_0 := blk_frozen BK271.out 0; have hfz127_1 := blk_frozen BK271.out 1; have hfz127_2 := blk_frozen BK271.out 2; have hfz127_3 := blk_frozen BK271.out 3; obtain ⟨Ao128, co128, eo128⟩ := Kd.R_slice HO266.out; subst eo128; obtain ⟨Ao129, co129, eo129⟩ := Kd.S_slice HO269.out; subst eo129))
           (try simp only [Act.put, List.setIfInBounds_toArray, List.set_cons_zero, List.set_cons_succ])
           go_cut [87] (fun v87 wc => ∃ (kq : Nat) (x87_106 : Bool), v87 = .bool x87_106 ∧ Aside0 (laws_FnExactStartWatcher.j2 kq t253 x87_106 t254 t236 t255 t240 = some r) ∧ Aside0 (kq ≤ kj63) ∧ Aside0 (Kd.R k66 66 wc w.heap.size (fun k_ => some k_ ≠ ((.slice Ao28 t251.length co28) : Value).ownBlock ∧ some k_ ≠ ((.slice Ao34 t233.length co34) : Value).ownBlock ∧ some k_ ≠ ((.slice Ao122 t260.length co122) : Value).ownBlock) (.slice Ao20 t217.length co20) t217) ∧ Aside0 (Kd.R (Kd.int .i64) 2 wc w.heap.size (fun k_ => some k_ ≠ ((.slice Ao39 t237.length co39) : Value).ownBlock ∧ some k_ ≠ ((.slice Ao128 t264.length co128) : Value).ownBlock) (.slice Ao23 t221.length co23) t221) ∧ Aside0 (Kd.S (Kd.slice 2 (Kd.int .i64)) 34 wc w.heap.size (fun k_ => some k_ ≠ ((.slice Ao23 t221.length co23) : Value).ownBlock ∧ some k_ ≠ ((.slice Ao39 t237.length co39) : Value).ownBlock ∧ some k_ ≠ ((.slice Ao40 t240.length co40) : Value).ownBlock ∧ some k_ ≠ ((.slice Ao128 t264.length co128) : Value).ownBlock ∧ some k_ ≠ ((.slice Ao129 t267.length co129) : Value).ownBlock) (.slice Ao24 t224.length co24) t224) ∧ Aside0 (Kd.R k66 66 wc w.heap.size (fun k_ => some k_ ≠ ((.slice Ao20 t217.length co20) : Value).ownBlock ∧ some k_ ≠ ((.slice Ao34 t233.length co34) : Value).ownBlock ∧ some k_ ≠ ((.slice Ao122 t260.length co122) : Value).ownBlock) (.slice Ao28 t251.length co28) t251) ∧ Aside0 (Kd.R k66 66 wc w.heap.size (fun k_ => some k_ ≠ ((.slice Ao20 t217.length co20) : Value).ownBlock ∧ some k_ ≠ ((.slice Ao28 t251.length co28) : Value).ownBlock ∧ some k_ ≠ ((.slice Ao122 t260.length co122) : Value).ownBlock) (.slice Ao34 t233.length co34) t254) ∧ Aside0 (Kd.R (Kd.int .i64) 2 wc w.heap.size (fun k_ => some k_ ≠ ((.slice Ao23 t221.length co23) : Value).ownBlock ∧ some k_ ≠ ((.slice Ao128 t264.length co128) : Value).ownBlock) (.slice Ao39 t237.length co39) t255) ∧ Aside0 (Kd.S (Kd.slice 2 (Kd.int .i64)) 34 wc w.heap.size (fun k_ => some k_ ≠ ((.slice Ao23 t221.length co23) : Value).ownBlock ∧ some k_ ≠ ((.slice Ao24 t224.length co24) : Value).ownBlock ∧ some k_ ≠ ((.slice Ao39 t237.length co39) : Value).ownBlock ∧ some k_ ≠ ((.slice Ao128 t264.length co128) : Value).ownBlock ∧ some k_ ≠ ((.slice Ao129 t267.length co129) : Value).ownBlock) (.slice Ao40 t240.length co40) t240) ∧ Aside0 (Kd.R k66 66 wc w.heap.size (fun k_ => some k_ ≠ ((.slice Ao20 t217.length co20) : Value).ownBlock ∧ some k_ ≠ ((.slice Ao28 t251.length co28) : Value).ownBlock ∧ some k_ ≠ ((.slice Ao34 t233.length co34) : Value).ownBlock) (.slice Ao122 t260.length co122) t260) ∧ Aside0 (Kd.R (Kd.int .i64) 2 wc w.heap.size (fun k_ => some k_ ≠ ((.slice Ao23 t221.length co23) : Value).ownBlock ∧ some k_ ≠ ((.slice Ao39 t237.length co39) : Value).ownBlock) (.slice Ao128 t264.length co128) t264) ∧ Aside0 (Kd.S (Kd.slice 2 (Kd.int .i64)) 34 wc w.heap.size (fun k_ => some k_ ≠ ((.slice Ao23 t221.length co23) : Value).ownBlock ∧ some k_ ≠ ((.slice Ao24 t224.length co24) : Value).ownBlock ∧ some k_ ≠ ((.slice Ao39 t237.length co39) : Value).ownBlock ∧ some k_ ≠ ((.slice Ao40 t240.length co40) : Value).ownBlock ∧ some k_ ≠ ((.slice Ao128 t264.length co128) : Value).ownBlock) (.slice Ao129 t267.length co129) t267) ∧ Aside0 (wc.heap[gb212]? = some (.cells #[(.slice A0_0 l0_0.length c0_0)] 24 (0, 0))) ∧ Aside0 (wc.heap[gb228]? = some (.cells #[(.slice Ao20 t217.length co20), .int .i64 t220, (.slice Ao23 t221.length co23), (.slice Ao24 t224.length co24)] 37 (0, 0))) ∧ Aside0 (wc.heap[gb232]? = some (.cells #[(.slice Ao28 t251.length co28)] 30 (0, 0))) ∧ Aside0 (wc.heap[gb244]? = some (.cells #[(.slice Ao34 t233.length co34), .int .i64 t236, (.slice Ao39 t237.length co39), (.slice Ao40 t240.length co40)] 37 (0, 0))) ∧ Aside0 (wc.heap[gb271]? = some (.cells #[(.slice Ao122 t260.length co122), .int .i64 t263, (.slice Ao128 t264.length co128), (.slice Ao129 t267.length co129)] 37 (0, 0))) ∧ Aside0 (Below w.heap.size w wc))
           case first =>
            have H := HC107.out
            clear HC107
            replace H := Option.bind_eq_some_iff.mp H
            obtain ⟨t272, A1300, H⟩ := H
            replace H : (if t272 = true then (laws_FnExactStartWatcher.j2 kj63 t253 (t270 != t227) t254 t236 t255 t240) else (laws_FnExactStartWatcher.j2 kj63 t253 true t254 t236 t255 t240)) = some r := H
            have A130 := Aside0.mk A1300
            clear A1300
            by_cases c131 : t272 = true
            ·subst c131
             have H1 : (laws_FnExactStartWatcher.j2 kj63 t253 (t270 != t227) t254 t236 t255 t240) = some r := by rw [if_pos rfl] at H; exact H
             clear H
             have H := H1
             clear H1
             have H' := Aside0.mk H
             clear H
             have hnb132 := NB271_212.out
             have hnc132 := NB212_271.out
             have hnb133 := NB271_228.out
             have hnc133 := NB228_271.out
             have hnb134 := NB271_232.out
             have hnc134 := NB232_271.out
             have hnb135 := NB271_244.out
             have hnc135 := NB244_271.out
             have hcz136_0 : w121.cell? ⟨gb271, 0, none⟩ = some (.slice none 0 0) := (blk_cell BK271.out 0).trans rfl
             have hcz136_1 : w121.cell? ⟨gb271, 1, none⟩ = some (.int .i64 0) := (blk_cell BK271.out 1).trans rfl
             have hcz136_2 : w121.cell? ⟨gb271, 2, none⟩ = some (.slice none 0 0) := (blk_cell BK271.out 2).trans rfl
             have hcz136_3 : w121.cell? ⟨gb271, 3, none⟩ = some (.slice none 0 0) := (blk_cell BK271.out 3).trans rfl
             have hfz136_0 := blk_frozen BK271.out 0
             have hfz136_1 := blk_frozen BK271.out 1
             have hfz136_2 := blk_frozen BK271.out 2
             have hfz136_3 := blk_frozen BK271.out 3
             have hnb137 := NB228_212.out
             have hnc137 := NB212_228.out
             have hnb138 := NB228_232.out
             have hnc138 := NB232_228.out
             have hnb139 := NB228_244.out
             have hnc139 := NB244_228.out
             have hcz140_0 : w121.cell? ⟨gb228, 0, none⟩ = some (.slice Ao20 t217.length co20) := (blk_cell BK228.out 0).trans rfl
             have hcz140_1 : w121.cell? ⟨gb228, 1, none⟩ = some (.int .i64 t220) := (blk_cell BK228.out 1).trans rfl
             have hcz140_2 : w121.cell? ⟨gb228, 2, none⟩ = some (.slice Ao23 t221.length co23) := (blk_cell BK228.out 2).trans rfl
             have hcz140_3 : w121.cell? ⟨gb228, 3, none⟩ = some (.slice Ao24 t224.length co24) := (blk_cell BK228.out 3).trans rfl
             have hfz140_0 := blk_frozen BK228.out 0
             have hfz140_1 := blk_frozen BK228.out 1
             have hfz140_2 := blk_frozen BK228.out 2
             have hfz140_3 := blk_frozen BK228.out 3
             go_wp2_with (first | ((with_reducible refine gate_callee (f := 12) rfl ?_); refine goesL_ (some 81) rfl rfl Try.func12 (by kernel_rfl) rfl #[.agg #[.slice Ao122 t260.length co122, .int .i64 t263, .slice Ao128 t264.length co128, .slice Ao129 t267.length co129], .agg #[.slice Ao20 t217.length co20, .int .i64 t220, .slice Ao23 t221.length co23, .slice Ao24 t224.length co24]] rfl (by (try simp only [List.map_toArray, List.map_cons, List.map_nil]); first | done | rfl | (simp only [List.length_drop, List.length_take]; rfl)) ?_; (with_reducible refine (laws_eqWatcher.calls kj63 _ _ t260 t263 _ _ t264 _ _ t267 _ _ t217 t220 _ _ t221 _ _ t224 true _ ?side1 ?side2 ?side3 ?side4 ?side5 ?side6 ?side7 ?side8 ?side9 ?side10 ?side11 ?side12 A130.out).mono ?_); (case side1 => refine (Kd.R_reads' (e := 66) (base := w.heap.size) (ok := fun k_ => ((((True ∧ some k_ ≠ (.slice Ao20 t217.length co20 : Value).ownBlock) ∧ some k_ ≠ (.slice Ao28 t251.length co28 : Value).ownBlock) ∧ some k_ ≠ (.slice Ao34 t233.length co34 : Value).ownBlock) ∧ some k_ ≠ (.slice Ao119 t257.length co119 : Value).ownBlock)) (n := t260.length) (c := co122) ?_).2.2; exact (by (with_reducible repeat (first | apply Kd.R_alloc | apply Kd.R_drewN | apply Kd.R_drew)); exact (Kd.R_mono (Kd.R_far (p := ⟨gb271, 3, none⟩) (Kd.R_far (p := ⟨gb271, 2, none⟩) (Kd.R_far (p := ⟨gb271, 1, none⟩) (Kd.R_far (p := ⟨gb271, 0, none⟩) (Kd.R_types HO262.out BK271.out (by decide)) (fun _ hk => hk.2) (.slice Ao122 t260.length co122)) (fun _ hk => hk.2) (.int .i64 t263)) (fun _ hk => hk.2) (.slice Ao128 t264.length co128)) (fun _ hk => hk.2) (.slice Ao129 t267.length co129)) (fun _ h_ => h_.1)))); (case side2 => exact (Kd.R_reads' HO262.out).2.1); (case side3 => refine (Kd.R_reads' (e := 2) (base := w.heap.size) (ok := fun k_ => ((True ∧ some k_ ≠ (.slice Ao23 t221.length co23 : Value).ownBlock) ∧ some k_ ≠ (.slice Ao39 t237.length co39 : Value).ownBlock)) (n := t264.length) (c := co128) ?_).2.2; exact (by (with_reducible repeat (first | apply Kd.R_alloc | apply Kd.R_drewN | apply Kd.R_drew)); exact (Kd.R_mono (Kd.R_far (p := ⟨gb271, 3, none⟩) (Kd.R_far (p := ⟨gb271, 2, none⟩) (Kd.R_far (p := ⟨gb271, 1, none⟩) (Kd.R_far (p := ⟨gb271, 0, none⟩) (Kd.R_types HO266.out BK271.out (by decide)) (fun _ hk => hk.2) (.slice Ao122 t260.length co122)) (fun _ hk => hk.2) (.int .i64 t263)) (fun _ hk => hk.2) (.slice Ao128 t264.length co128)) (fun _ hk => hk.2) (.slice Ao129 t267.length co129)) (fun _ h_ => h_.1)))); (case side4 => exact (Kd.R_reads' HO266.out).2.1); (case side5 => refine (Kd.S_reads' (e := 34) (base := w.heap.size) (ok := fun k_ => ((((some k_ ≠ (.slice Ao128 t264.length co128 : Value).ownBlock ∧ some k_ ≠ (.slice Ao23 t221.length co23 : Value).ownBlock) ∧ some k_ ≠ (.slice Ao24 t224.length co24 : Value).ownBlock) ∧ some k_ ≠ (.slice Ao39 t237.length co39 : Value).ownBlock) ∧ some k_ ≠ (.slice Ao40 t240.length co40 : Value).ownBlock)) (n := t267.length) (c := co129) ?_).2.2; exact (by (with_reducible repeat (first | apply Kd.S_alloc | apply Kd.S_drewN | apply Kd.S_drew)); exact (Kd.S_mono (Kd.S_far (p := ⟨gb271, 3, none⟩) (Kd.S_far (p := ⟨gb271, 2, none⟩) (Kd.S_far (p := ⟨gb271, 1, none⟩) (Kd.S_far (p := ⟨gb271, 0, none⟩) (Kd.S_types HO269.out BK271.out (by decide)) (fun _ hk => hk.2) (.slice Ao122 t260.length co122)) (fun _ hk => hk.2) (.int .i64 t263)) (fun _ hk => hk.2) (.slice Ao128 t264.length co128)) (fun _ hk => hk.2) (.slice Ao129 t267.length co129)) (fun _ h_ => h_.1)))); (case side6 => exact (Kd.S_reads' HO269.out).2.1); (case side7 => refine (Kd.R_reads' (e := 66) (base := w.heap.size) (ok := fun k_ => (((some k_ ≠ (.slice Ao28 t251.length co28 : Value).ownBlock ∧ some k_ ≠ (.slice Ao34 t233.length co34 : Value).ownBlock) ∧ some k_ ≠ (.slice Ao119 t257.length co119 : Value).ownBlock) ∧ some k_ ≠ (.slice Ao122 t260.length co122 : Value).ownBlock)) (n := t217.length) (c := co20) ?_).2.2; exact (by (with_reducible repeat (first | apply Kd.R_alloc | apply Kd.R_drewN | apply Kd.R_drew)); exact (Kd.R_mono (Kd.R_far (p := ⟨gb271, 3, none⟩) (Kd.R_far (p := ⟨gb271, 2, none⟩) (Kd.R_far (p := ⟨gb271, 1, none⟩) (Kd.R_far (p := ⟨gb271, 0, none⟩) (Kd.R_types HO_229000.out BK271.out (by decide)) (fun _ hk => hk.2) (.slice Ao122 t260.length co122)) (fun _ hk => hk.2) (.int .i64 t263)) (fun _ hk => hk.2) (.slice Ao128 t264.length co128)) (fun _ hk => hk.2) (.slice Ao129 t267.length co129)) (fun _ h_ => h_.1)))); (case side8 => exact (Kd.R_reads' HO_229000.out).2.1); (case side9 => refine (Kd.R_reads' (e := 2) (base := w.heap.size) (ok := fun k_ => (some k_ ≠ (.slice Ao39 t237.length co39 : Value).ownBlock ∧ some k_ ≠ (.slice Ao128 t264.length co128 : Value).ownBlock)) (n := t221.length) (c := co23) ?_).2.2; exact (by (with_reducible repeat (first | apply Kd.R_alloc | apply Kd.R_drewN | apply Kd.R_drew)); exact (Kd.R_mono (Kd.R_far (p := ⟨gb271, 3, none⟩) (Kd.R_far (p := ⟨gb271, 2, none⟩) (Kd.R_far (p := ⟨gb271, 1, none⟩) (Kd.R_far (p := ⟨gb271, 0, none⟩) (Kd.R_types HO_229002.out BK271.out (by decide)) (fun _ hk => hk.2) (.slice Ao122 t260.length co122)) (fun _ hk => hk.2) (.int .i64 t263)) (fun _ hk => hk.2) (.slice Ao128 t264.length co128)) (fun _ hk => hk.2) (.slice Ao129 t267.length co129)) (fun _ h_ => h_.1)))); (case side10 => exact (Kd.R_reads' HO_229002.out).2.1); (case side11 => refine (Kd.S_reads' (e := 34) (base := w.heap.size) (ok := fun k_ => (((some k_ ≠ (.slice Ao23 t221.length co23 : Value).ownBlock ∧ (some k_ ≠ (.slice Ao39 t237.length co39 : Value).ownBlock ∧ some k_ ≠ (.slice Ao40 t240.length co40 : Value).ownBlock)) ∧ some k_ ≠ (.slice Ao128 t264.length co128 : Value).ownBlock) ∧ some k_ ≠ (.slice Ao129 t267.length co129 : Value).ownBlock)) (n := t224.length) (c := co24) ?_).2.2; exact (by (with_reducible repeat (first | apply Kd.S_alloc | apply Kd.S_drewN | apply Kd.S_drew)); exact (Kd.S_mono (Kd.S_far (p := ⟨gb271, 3, none⟩) (Kd.S_far (p := ⟨gb271, 2, none⟩) (Kd.S_far (p := ⟨gb271, 1, none⟩) (Kd.S_far (p := ⟨gb271, 0, none⟩) (Kd.S_types HO_229003.out BK271.out (by decide)) (fun _ hk => hk.2) (.slice Ao122 t260.length co122)) (fun _ hk => hk.2) (.int .i64 t263)) (fun _ hk => hk.2) (.slice Ao128 t264.length co128)) (fun _ hk => hk.2) (.slice Ao129 t267.length co129)) (fun _ h_ => h_.1)))); (case side12 => exact (Kd.S_reads' HO_229003.out).2.1); rintro e w141 ⟨rfl, hb⟩; refine ⟨_, rfl, ?_⟩; have n0_ := Aside0.mk (Kd.R_below (by (with_reducible repeat (first | apply Kd.R_alloc | apply Kd.R_drewN | apply Kd.R_drew)); exact (Kd.R_mono (Kd.R_far (p := ⟨gb271, 3, none⟩) (Kd.R_far (p := ⟨gb271, 2, none⟩) (Kd.R_far (p := ⟨gb271, 1, none⟩) (Kd.R_far (p := ⟨gb271, 0, none⟩) (Kd.R_types HO_229000.out BK271.out (by decide)) (fun _ hk => hk.2) (.slice Ao122 t260.length co122)) (fun _ hk => hk.2) (.int .i64 t263)) (fun _ hk => hk.2) (.slice Ao128 t264.length co128)) (fun _ hk => hk.2) (.slice Ao129 t267.length co129)) (fun _ h_ => h_.1))) hb); have n1_ := Aside0.mk (Kd.R_below (by (with_reducible repeat (first | apply Kd.R_alloc | apply Kd.R_drewN | apply Kd.R_drew)); exact (Kd.R_mono (Kd.R_far (p := ⟨gb271, 3, none⟩) (Kd.R_far (p := ⟨gb271, 2, none⟩) (Kd.R_far (p := ⟨gb271, 1, none⟩) (Kd.R_far (p := ⟨gb271, 0, none⟩) (Kd.R_types HO_229002.out BK271.out (by decide)) (fun _ hk => hk.2) (.slice Ao122 t260.length co122)) (fun _ hk => hk.2) (.int .i64 t263)) (fun _ hk => hk.2) (.slice Ao128 t264.length co128)) (fun _ hk => hk.2) (.slice Ao129 t267.length co129)) (fun _ h_ => h_.1))) hb); have n2_ := Aside0.mk (Kd.S_below (by (with_reducible repeat (first | apply Kd.S_alloc | apply Kd.S_drewN | apply Kd.S_drew)); exact (Kd.S_mono (Kd.S_far (p := ⟨gb271, 3, none⟩) (Kd.S_far (p := ⟨gb271, 2, none⟩) (Kd.S_far (p := ⟨gb271, 1, none⟩) (Kd.S_far (p := ⟨gb271, 0, none⟩) (Kd.S_types HO_229003.out BK271.out (by decide)) (fun _ hk => hk.2) (.slice Ao122 t260.length co122)) (fun _ hk => hk.2) (.int .i64 t263)) (fun _ hk => hk.2) (.slice Ao128 t264.length co128)) (fun _ hk => hk.2) (.slice Ao129 t267.length co129)) (fun _ h_ => h_.1))) hb); have n3_ := Aside0.mk (Kd.R_below (by (with_reducible repeat (first | apply Kd.R_alloc | apply Kd.R_drewN | apply Kd.R_drew)); exact (Kd.R_mono (Kd.R_far (p := ⟨gb271, 3, none⟩) (Kd.R_far (p := ⟨gb271, 2, none⟩) (Kd.R_far (p := ⟨gb271, 1, none⟩) (Kd.R_far (p := ⟨gb271, 0, none⟩) (Kd.R_types HO_233000.out BK271.out (by decide)) (fun _ hk => hk.2) (.slice Ao122 t260.length co122)) (fun _ hk => hk.2) (.int .i64 t263)) (fun _ hk => hk.2) (.slice Ao128 t264.length co128)) (fun _ hk => hk.2) (.slice Ao129 t267.length co129)) (fun _ h_ => h_.1))) hb); have n4_ := Aside0.mk (Kd.R_below (by (with_reducible repeat (first | apply Kd.R_alloc | apply Kd.R_drewN | apply Kd.R_drew)); exact (Kd.R_mono (Kd.R_far (p := ⟨gb271, 3, none⟩) (Kd.R_far (p := ⟨gb271, 2, none⟩) (Kd.R_far (p := ⟨gb271, 1, none⟩) (Kd.R_far (p := ⟨gb271, 0, none⟩) (Kd.R_types HO_245000.out BK271.out (by decide)) (fun _ hk => hk.2) (.slice Ao122 t260.length co122)) (fun _ hk => hk.2) (.int .i64 t263)) (fun _ hk => hk.2) (.slice Ao128 t264.length co128)) (fun _ hk => hk.2) (.slice Ao129 t267.length co129)) (fun _ h_ => h_.1))) hb); have n5_ := Aside0.mk (Kd.R_below (by (with_reducible repeat (first | apply Kd.R_alloc | apply Kd.R_drewN | apply Kd.R_drew)); exact (Kd.R_mono (Kd.R_far (p := ⟨gb271, 3, none⟩) (Kd.R_far (p := ⟨gb271, 2, none⟩) (Kd.R_far (p := ⟨gb271, 1, none⟩) (Kd.R_far (p := ⟨gb271, 0, none⟩) (Kd.R_types HO_245002.out BK271.out (by decide)) (fun _ hk => hk.2) (.slice Ao122 t260.length co122)) (fun _ hk => hk.2) (.int .i64 t263)) (fun _ hk => hk.2) (.slice Ao128 t264.length co128)) (fun _ hk => hk.2) (.slice Ao129 t267.length co129)) (fun _ h_ => h_.1))) hb); have n6_ := Aside0.mk (Kd.S_below (by (with_reducible repeat (first | apply Kd.S_alloc | apply Kd.S_drewN | apply Kd.S_drew)); exact (Kd.S_mono (Kd.S_far (p := ⟨gb271, 3, none⟩) (Kd.S_far (p := ⟨gb271, 2, none⟩) (Kd.S_far (p := ⟨gb271, 1, none⟩) (Kd.S_far (p := ⟨gb271, 0, none⟩) (Kd.S_types HO_245003.out BK271.out (by decide)) (fun _ hk => hk.2) (.slice Ao122 t260.length co122)) (fun _ hk => hk.2) (.int .i64 t263)) (fun _ hk => hk.2) (.slice Ao128 t264.length co128)) (fun _ hk => hk.2) (.slice Ao129 t267.length co129)) (fun _ h_ => h_.1))) hb); have n7_ := Aside0.mk (Kd.R_below (by (with_reducible repeat (first | apply Kd.R_alloc | apply Kd.R_drewN | apply Kd.R_drew)); exact (Kd.R_mono (Kd.R_far (p := ⟨gb271, 3, none⟩) (Kd.R_far (p := ⟨gb271, 2, none⟩) (Kd.R_far (p := ⟨gb271, 1, none⟩) (Kd.R_far (p := ⟨gb271, 0, none⟩) (Kd.R_types HO259.out BK271.out (by decide)) (fun _ hk => hk.2) (.slice Ao122 t260.length co122)) (fun _ hk => hk.2) (.int .i64 t263)) (fun _ hk => hk.2) (.slice Ao128 t264.length co128)) (fun _ hk => hk.2) (.slice Ao129 t267.length co129)) (fun _ h_ => h_.1))) hb); have n8_ := Aside0.mk (Kd.R_below (by (with_reducible repeat (first | apply Kd.R_alloc | apply Kd.R_drewN | apply Kd.R_drew)); exact (Kd.R_mono (Kd.R_far (p := ⟨gb271, 3, none⟩) (Kd.R_far (p := ⟨gb271, 2, none⟩) (Kd.R_far (p := ⟨gb271, 1, none⟩) (Kd.R_far (p := ⟨gb271, 0, none⟩) (Kd.R_types HO262.out BK271.out (by decide)) (fun _ hk => hk.2) (.slice Ao122 t260.length co122)) (fun _ hk => hk.2) (.int .i64 t263)) (fun _ hk => hk.2) (.slice Ao128 t264.length co128)) (fun _ hk => hk.2) (.slice Ao129 t267.length co129)) (fun _ h_ => h_.1))) hb); have n9_ := Aside0.mk (Kd.R_below (by (with_reducible repeat (first | apply Kd.R_alloc | apply Kd.R_drewN | apply Kd.R_drew)); exact (Kd.R_mono (Kd.R_far (p := ⟨gb271, 3, none⟩) (Kd.R_far (p := ⟨gb271, 2, none⟩) (Kd.R_far (p := ⟨gb271, 1, none⟩) (Kd.R_far (p := ⟨gb271, 0, none⟩) (Kd.R_types HO266.out BK271.out (by decide)) (fun _ hk => hk.2) (.slice Ao122 t260.length co122)) (fun _ hk => hk.2) (.int .i64 t263)) (fun _ hk => hk.2) (.slice Ao128 t264.length co128)) (fun _ hk => hk.2) (.slice Ao129 t267.length co129)) (fun _ h_ => h_.1))) hb); have n10_ := Aside0.mk (Kd.S_below (by (with_reducible repeat (first | apply Kd.S_alloc | apply Kd.S_drewN | apply Kd.S_drew)); exact (Kd.S_mono (Kd.S_far (p := ⟨gb271, 3, none⟩) (Kd.S_far (p := ⟨gb271, 2, none⟩) (Kd.S_far (p := ⟨gb271, 1, none⟩) (Kd.S_far (p := ⟨gb271, 0, none⟩) (Kd.S_types HO269.out BK271.out (by decide)) (fun _ hk => hk.2) (.slice Ao122 t260.length co122)) (fun _ hk => hk.2) (.int .i64 t263)) (fun _ hk => hk.2) (.slice Ao128 t264.length co128)) (fun _ hk => hk.2) (.slice Ao129 t267.length co129)) (fun _ h_ => h_.1))) hb); have n11_ := Aside0.mk (blk_below (g := gb212) (o := .cells #[.slice A0_0 l0_0.length c0_0] 24 (0, 0)) (by (with_reducible repeat (first | refine blk_drewN ?_ _ | refine blk_drew ?_ | refine blk_alloc ?_ _)); refine blk_far ?_ NB212_271.out _; (with_reducible repeat (first | refine blk_drewN ?_ _ | refine blk_drew ?_ | refine blk_alloc ?_ _)); refine blk_far ?_ NB212_271.out _; (with_reducible repeat (first | refine blk_drewN ?_ _ | refine blk_drew ?_ | refine blk_alloc ?_ _)); refine blk_far ?_ NB212_271.out _; (with_reducible repeat (first | refine blk_drewN ?_ _ | refine blk_drew ?_ | refine blk_alloc ?_ _)); refine blk_far ?_ NB212_271.out _; (with_reducible repeat (first | refine blk_drewN ?_ _ | refine blk_drew ?_ | refine blk_alloc ?_ _)); exact BK212.out) hb); have n12_ := Aside0.mk (blk_below (g := gb228) (o := .cells #[.slice Ao20 t217.length co20, .int .i64 t220, .slice Ao23 t221.length co23, .slice Ao24 t224.length co24] 37 (0, 0)) (by (with_reducible repeat (first | refine blk_drewN ?_ _ | refine blk_drew ?_ | refine blk_alloc ?_ _)); refine blk_far ?_ NB228_271.out _; (with_reducible repeat (first | refine blk_drewN ?_ _ | refine blk_drew ?_ | refine blk_alloc ?_ _)); refine blk_far ?_ NB228_271.out _; (with_reducible repeat (first | refine blk_drewN ?_ _ | refine blk_drew ?_ | refine blk_alloc ?_ _)); refine blk_far ?_ NB228_271.out _; (with_reducible repeat (first | refine blk_drewN ?_ _ | refine blk_drew ?_ | refine blk_alloc ?_ _)); refine blk_far ?_ NB228_271.out _; (with_reducible repeat (first | refine blk_drewN ?_ _ | refine blk_drew ?_ | refine blk_alloc ?_ _)); exact BK228.out) hb); have n13_ := Aside0.mk (blk_below (g := gb232) (o := .cells #[.slice Ao28 t251.length co28] 30 (0, 0)) (by (with_reducible repeat (first | refine blk_drewN ?_ _ | refine blk_drew ?_ | refine blk_alloc ?_ _)); refine blk_far ?_ NB232_271.out _; (with_reducible repeat (first | refine blk_drewN ?_ _ | refine blk_drew ?_ | refine blk_alloc ?_ _)); refine blk_far ?_ NB232_271.out _; (with_reducible repeat (first | refine blk_drewN ?_ _ | refine blk_drew ?_ | refine blk_alloc ?_ _)); refine blk_far ?_ NB232_271.out _; (with_reducible repeat (first | refine blk_drewN ?_ _ | refine blk_drew ?_ | refine blk_alloc ?_ _)); refine blk_far ?_ NB232_271.out _; (with_reducible repeat (first | refine blk_drewN ?_ _ | refine blk_drew ?_ | refine blk_alloc ?_ _)); exact BK232.out) hb); have n14_ := Aside0.mk (blk_below (g := gb244) (o := .cells #[.slice Ao34 t233.length co34, .int .i64 t236, .slice Ao39 t237.length co39, .slice Ao40 t240.length co40] 37 (0, 0)) (by (with_reducible repeat (first | refine blk_drewN ?_ _ | refine blk_drew ?_ | refine blk_alloc ?_ _)); refine blk_far ?_ NB244_271.out _; (with_reducible repeat (first | refine blk_drewN ?_ _ | refine blk_drew ?_ | refine blk_alloc ?_ _)); refine blk_far ?_ NB244_271.out _; (with_reducible repeat (first | refine blk_drewN ?_ _ | refine blk_drew ?_ | refine blk_alloc ?_ _)); refine blk_far ?_ NB244_271.out _; (with_reducible repeat (first | refine blk_drewN ?_ _ | refine blk_drew ?_ | refine blk_alloc ?_ _)); refine blk_far ?_ NB244_271.out _; (with_reducible repeat (first | refine blk_drewN ?_ _ | refine blk_drew ?_ | refine blk_alloc ?_ _)); exact BK244.out) hb); have n15_ := Aside0.mk (blk_below (g := gb271) (o := .cells #[.slice Ao122 t260.length co122, .int .i64 t263, .slice Ao128 t264.length co128, .slice Ao129 t267.length co129] 37 (0, 0)) (by (with_reducible repeat (first | refine blk_drewN ?_ _ | refine blk_drew ?_ | refine blk_alloc ?_ _)); refine blk_put (cs := #[.slice Ao122 t260.length co122, .int .i64 t263, .slice Ao128 t264.length co128, .slice none 0 0]) ?_ 3 _ rfl; (with_reducible repeat (first | refine blk_drewN ?_ _ | refine blk_drew ?_ | refine blk_alloc ?_ _)); refine blk_put (cs := #[.slice Ao122 t260.length co122, .int .i64 t263, .slice none 0 0, .slice none 0 0]) ?_ 2 _ rfl; (with_reducible repeat (first | refine blk_drewN ?_ _ | refine blk_drew ?_ | refine blk_alloc ?_ _)); refine blk_put (cs := #[.slice Ao122 t260.length co122, .int .i64 0, .slice none 0 0, .slice none 0 0]) ?_ 1 _ rfl; (with_reducible repeat (first | refine blk_drewN ?_ _ | refine blk_drew ?_ | refine blk_alloc ?_ _)); refine blk_put (cs := #[.slice none 0 0, .int .i64 0, .slice none 0 0, .slice none 0 0]) ?_ 0 _ rfl; (with_reducible repeat (first | refine blk_drewN ?_ _ | refine blk_drew ?_ | refine blk_alloc ?_ _)); exact BK271.out) hb); have n16_ := Aside0.mk (below_step (by repeat (first | (with_reducible first | exact HB.out | apply below_alloc | apply pw_below_drewN | apply below_drew1 | refine below_set ?_ GE212.out | refine below_set ?_ GE228.out | refine below_set ?_ GE232.out | refine below_set ?_ GE244.out | refine below_set ?_ GE271.out) | exact HB.out)) hb); clear HO_229000; clear HO_229002; clear HO_229003; clear HO_233000; clear HO_245000; clear HO_245002; clear HO_245003; clear HO259; clear HO262; clear HO266; clear HO269; clear BK212; clear BK228; clear BK232; clear BK244; clear BK271; clear HB; have HO_229000 := n0_; have HO_229002 := n1_; have HO_229003 := n2_; have HO_233000 := n3_; have HO_245000 := n4_; have HO_245002 := n5_; have HO_245003 := n6_; have HO259 := n7_; have HO262 := n8_; have HO266 := n9_; have HO269 := n10_; have BK212 := n11_; have BK228 := n12_; have BK232 := n13_; have BK244 := n14_; have BK271 := n15_; have HB := n16_; clear n0_ n1_ n2_ n3_ n4_ n5_ n6_ n7_ n8_ n9_ n10_ n11_ n12_ n13_ n14_ n15_ n16_; (try clear hb); (try clear hb2); (try clear hk); (try clear hi)))
             go_meet
             case rel => exact ⟨_, ((t270 != t227)), (by first | rfl | (simp; done) | (simp [*]; done)), H', ⟨by have := HJ10.out; have := HJ63.out; first | omega | exact Nat.le_refl _⟩, ⟨by (try simp only [hl233000_63]); (with_reducible repeat (first | apply Kd.R_alloc | apply Kd.R_drewN | apply Kd.R_drew)); exact Kd.R_mono HO_229000.out (fun _ hk => ⟨hk.1.1.1, ⟨hk.1.1.2, hk.2⟩⟩)⟩, ⟨by (try simp only [hl233000_63]); (with_reducible repeat (first | apply Kd.R_alloc | apply Kd.R_drewN | apply Kd.R_drew)); exact HO_229002.out⟩, ⟨by (try simp only [hl233000_63]); (with_reducible repeat (first | apply Kd.S_alloc | apply Kd.S_drewN | apply Kd.S_drew)); exact Kd.S_mono HO_229003.out (fun _ hk => ⟨hk.1.1.1, ⟨hk.1.1.2.1, ⟨hk.1.1.2.2, ⟨hk.1.2, hk.2⟩⟩⟩⟩)⟩, ⟨by (try simp only [hl233000_63]); (with_reducible repeat (first | apply Kd.R_alloc | apply Kd.R_drewN | apply Kd.R_drew)); exact Kd.R_mono HO_233000.out (fun _ hk => ⟨hk.1.1.1, ⟨hk.1.1.2, hk.2⟩⟩)⟩, ⟨by (try simp only [hl233000_63]); (with_reducible repeat (first | apply Kd.R_alloc | apply Kd.R_drewN | apply Kd.R_drew)); exact Kd.R_mono HO_245000.out (fun _ hk => ⟨hk.1.1.1, ⟨hk.1.1.2, hk.2⟩⟩)⟩, ⟨by (try simp only [hl233000_63]); (with_reducible repeat (first | apply Kd.R_alloc | apply Kd.R_drewN | apply Kd.R_drew)); exact HO_245002.out⟩, ⟨by (try simp only [hl233000_63]); (with_reducible repeat (first | apply Kd.S_alloc | apply Kd.S_drewN | apply Kd.S_drew)); exact Kd.S_mono HO_245003.out (fun _ hk => ⟨hk.1.1.1, ⟨hk.1.1.2.1, ⟨hk.1.1.2.2, ⟨hk.1.2, hk.2⟩⟩⟩⟩)⟩, ⟨by (try simp only [hl233000_63]); (with_reducible repeat (first | apply Kd.R_alloc | apply Kd.R_drewN | apply Kd.R_drew)); exact Kd.R_mono HO262.out (fun _ hk => ⟨hk.1.1.1.2, ⟨hk.1.1.2, hk.1.2⟩⟩)⟩, ⟨by (try simp only [hl233000_63]); (with_reducible repeat (first | apply Kd.R_alloc | apply Kd.R_drewN | apply Kd.R_drew)); exact Kd.R_mono HO266.out (fun _ hk => ⟨hk.1.2, hk.2⟩)⟩, ⟨by (try simp only [hl233000_63]); (with_reducible repeat (first | apply Kd.S_alloc | apply Kd.S_drewN | apply Kd.S_drew)); exact Kd.S_mono HO269.out (fun _ hk => ⟨hk.1.1.1.2, ⟨hk.1.1.2, ⟨hk.1.2, ⟨hk.2, hk.1.1.1.1⟩⟩⟩⟩)⟩, ⟨by (try simp only [hl233000_63]); (with_reducible repeat (first | refine blk_drewN ?_ _ | refine blk_drew ?_ | refine blk_alloc ?_ _)); exact BK212.out⟩, ⟨by (try simp only [hl233000_63]); (with_reducible repeat (first | refine blk_drewN ?_ _ | refine blk_drew ?_ | refine blk_alloc ?_ _)); exact BK228.out⟩, ⟨by (try simp only [hl233000_63]); (with_reducible repeat (first | refine blk_drewN ?_ _ | refine blk_drew ?_ | refine blk_alloc ?_ _)); exact BK232.out⟩, ⟨by (try simp only [hl233000_63]); (with_reducible repeat (first | refine blk_drewN ?_ _ | refine blk_drew ?_ | refine blk_alloc ?_ _)); exact BK244.out⟩, ⟨by (try simp only [hl233000_63]); (with_reducible repeat (first | refine blk_drewN ?_ _ | refine blk_drew ?_ | refine blk_alloc ?_ _)); exact BK271.out⟩, ⟨by repeat (first | (with_reducible first | exact HB.out | apply below_alloc | apply pw_below_drewN | apply below_drew1 | refine below_set ?_ GE212.out | refine below_set ?_ GE228.out | refine below_set ?_ GE232.out | refine below_set ?_ GE244.out | refine below_set ?_ GE271.out) | exact HB.out)⟩⟩
            ·replace c131 := Bool.eq_false_iff.mpr c131
             subst c131
             have H1 : (laws_FnExactStartWatcher.j2 kj63 t253 true t254 t236 t255 t240) = some r := by rw [if_neg (show ¬ (false = true) by decide)] at H; exact H
             clear H
             have H := H1
             clear H1
             have H' := Aside0.mk H
             clear H
             have hnb142 := NB271_212.out
             have hnc142 := NB212_271.out
             have hnb143 := NB271_228.out
             have hnc143 := NB228_271.out
             have hnb144 := NB271_232.out
             have hnc144 := NB232_271.out
             have hnb145 := NB271_244.out
             have hnc145 := NB244_271.out
             have hcz146_0 : w121.cell? ⟨gb271, 0, none⟩ = some (.slice none 0 0) := (blk_cell BK271.out 0).trans rfl
             have hcz146_1 : w121.cell? ⟨gb271, 1, none⟩ = some (.int .i64 0) := (blk_cell BK271.out 1).trans rfl
             have hcz146_2 : w121.cell? ⟨gb271, 2, none⟩ = some (.slice none 0 0) := (blk_cell BK271.out 2).trans rfl
             have hcz146_3 : w121.cell? ⟨gb271, 3, none⟩ = some (.slice none 0 0) := (blk_cell BK271.out 3).trans rfl
             have hfz146_0 := blk_frozen BK271.out 0
             have hfz146_1 := blk_frozen BK271.out 1
             have hfz146_2 := blk_frozen BK271.out 2
             have hfz146_3 := blk_frozen BK271.out 3
             have hnb147 := NB228_212.out
             have hnc147 := NB212_228.out
             have hnb148 := NB228_232.out
             have hnc148 := NB232_228.out
             have hnb149 := NB228_244.out
             have hnc149 := NB244_228.out
             have hcz150_0 : w121.cell? ⟨gb228, 0, none⟩ = some (.slice Ao20 t217.length co20) := (blk_cell BK228.out 0).trans rfl
             have hcz150_1 : w121.cell? ⟨gb228, 1, none⟩ = some (.int .i64 t220) := (blk_cell BK228.out 1).trans rfl
             have hcz150_2 : w121.cell? ⟨gb228, 2, none⟩ = some (.slice Ao23 t221.length co23) := (blk_cell BK228.out 2).trans rfl
             have hcz150_3 : w121.cell? ⟨gb228, 3, none⟩ = some (.slice Ao24 t224.length co24) := (blk_cell BK228.out 3).trans rfl
             have hfz150_0 := blk_frozen BK228.out 0
             have hfz150_1 := blk_frozen BK228.out 1
             have hfz150_2 := blk_frozen BK228.out 2
             have hfz150_3 := blk_frozen BK228.out 3
             go_wp2_with (first | ((with_reducible refine gate_callee (f := 12) rfl ?_); refine goesL_ (some 81) rfl rfl Try.func12 (by kernel_rfl) rfl #[.agg #[.slice Ao122 t260.length co122, .int .i64 t263, .slice Ao128 t264.length co128, .slice Ao129 t267.length co129], .agg #[.slice Ao20 t217.length co20, .int .i64 t220, .slice Ao23 t221.length co23, .slice Ao24 t224.length co24]] rfl (by (try simp only [List.map_toArray, List.map_cons, List.map_nil]); first | done | rfl | (simp only [List.length_drop, List.length_take]; rfl)) ?_; (with_reducible refine (laws_eqWatcher.calls kj63 _ _ t260 t263 _ _ t264 _ _ t267 _ _ t217 t220 _ _ t221 _ _ t224 false _ ?side1 ?side2 ?side3 ?side4 ?side5 ?side6 ?side7 ?side8 ?side9 ?side10 ?side11 ?side12 A130.out).mono ?_); (case side1 => refine (Kd.R_reads' (e := 66) (base := w.heap.size) (ok := fun k_ => ((((True ∧ some k_ ≠ (.slice Ao20 t217.length co20 : Value).ownBlock) ∧ some k_ ≠ (.slice Ao28 t251.length co28 : Value).ownBlock) ∧ some k_ ≠ (.slice Ao34 t233.length co34 : Value).ownBlock) ∧ some k_ ≠ (.slice Ao119 t257.length co119 : Value).ownBlock)) (n := t260.length) (c := co122) ?_).2.2; exact (by (with_reducible repeat (first | apply Kd.R_alloc | apply Kd.R_drewN | apply Kd.R_drew)); exact (Kd.R_mono (Kd.R_far (p := ⟨gb271, 3, none⟩) (Kd.R_far (p := ⟨gb271, 2, none⟩) (Kd.R_far (p := ⟨gb271, 1, none⟩) (Kd.R_far (p := ⟨gb271, 0, none⟩) (Kd.R_types HO262.out BK271.out (by decide)) (fun _ hk => hk.2) (.slice Ao122 t260.length co122)) (fun _ hk => hk.2) (.int .i64 t263)) (fun _ hk => hk.2) (.slice Ao128 t264.length co128)) (fun _ hk => hk.2) (.slice Ao129 t267.length co129)) (fun _ h_ => h_.1)))); (case side2 => exact (Kd.R_reads' HO262.out).2.1); (case side3 => refine (Kd.R_reads' (e := 2) (base := w.heap.size) (ok := fun k_ => ((True ∧ some k_ ≠ (.slice Ao23 t221.length co23 : Value).ownBlock) ∧ some k_ ≠ (.slice Ao39 t237.length co39 : Value).ownBlock)) (n := t264.length) (c := co128) ?_).2.2; exact (by (with_reducible repeat (first | apply Kd.R_alloc | apply Kd.R_drewN | apply Kd.R_drew)); exact (Kd.R_mono (Kd.R_far (p := ⟨gb271, 3, none⟩) (Kd.R_far (p := ⟨gb271, 2, none⟩) (Kd.R_far (p := ⟨gb271, 1, none⟩) (Kd.R_far (p := ⟨gb271, 0, none⟩) (Kd.R_types HO266.out BK271.out (by decide)) (fun _ hk => hk.2) (.slice Ao122 t260.length co122)) (fun _ hk => hk.2) (.int .i64 t263)) (fun _ hk => hk.2) (.slice Ao128 t264.length co128)) (fun _ hk => hk.2) (.slice Ao129 t267.length co129)) (fun _ h_ => h_.1)))); (case side4 => exact (Kd.R_reads' HO266.out).2.1); (case side5 => refine (Kd.S_reads' (e := 34) (base := w.heap.size) (ok := fun k_ => ((((some k_ ≠ (.slice Ao128 t264.length co128 : Value).ownBlock ∧ some k_ ≠ (.slice Ao23 t221.length co23 : Value).ownBlock) ∧ some k_ ≠ (.slice Ao24 t224.length co24 : Value).ownBlock) ∧ some k_ ≠ (.slice Ao39 t237.length co39 : Value).ownBlock) ∧ some k_ ≠ (.slice Ao40 t240.length co40 : Value).ownBlock)) (n := t267.length) (c := co129) ?_).2.2; exact (by (with_reducible repeat (first | apply Kd.S_alloc | apply Kd.S_drewN | apply Kd.S_drew)); exact (Kd.S_mono (Kd.S_far (p := ⟨gb271, 3, none⟩) (Kd.S_far (p := ⟨gb271, 2, none⟩) (Kd.S_far (p := ⟨gb271, 1, none⟩) (Kd.S_far (p := ⟨gb271, 0, none⟩) (Kd.S_types HO269.out BK271.out (by decide)) (fun _ hk => hk.2) (.slice Ao122 t260.length co122)) (fun _ hk => hk.2) (.int .i64 t263)) (fun _ hk => hk.2) (.slice Ao128 t264.length co128)) (fun _ hk => hk.2) (.slice Ao129 t267.length co129)) (fun _ h_ => h_.1)))); (case side6 => exact (Kd.S_reads' HO269.out).2.1); (case side7 => refine (Kd.R_reads' (e := 66) (base := w.heap.size) (ok := fun k_ => (((some k_ ≠ (.slice Ao28 t251.length co28 : Value).ownBlock ∧ some k_ ≠ (.slice Ao34 t233.length co34 : Value).ownBlock) ∧ some k_ ≠ (.slice Ao119 t257.length co119 : Value).ownBlock) ∧ some k_ ≠ (.slice Ao122 t260.length co122 : Value).ownBlock)) (n := t217.length) (c := co20) ?_).2.2; exact (by (with_reducible repeat (first | apply Kd.R_alloc | apply Kd.R_drewN | apply Kd.R_drew)); exact (Kd.R_mono (Kd.R_far (p := ⟨gb271, 3, none⟩) (Kd.R_far (p := ⟨gb271, 2, none⟩) (Kd.R_far (p := ⟨gb271, 1, none⟩) (Kd.R_far (p := ⟨gb271, 0, none⟩) (Kd.R_types HO_229000.out BK271.out (by decide)) (fun _ hk => hk.2) (.slice Ao122 t260.length co122)) (fun _ hk => hk.2) (.int .i64 t263)) (fun _ hk => hk.2) (.slice Ao128 t264.length co128)) (fun _ hk => hk.2) (.slice Ao129 t267.length co129)) (fun _ h_ => h_.1)))); (case side8 => exact (Kd.R_reads' HO_229000.out).2.1); (case side9 => refine (Kd.R_reads' (e := 2) (base := w.heap.size) (ok := fun k_ => (some k_ ≠ (.slice Ao39 t237.length co39 : Value).ownBlock ∧ some k_ ≠ (.slice Ao128 t264.length co128 : Value).ownBlock)) (n := t221.length) (c := co23) ?_).2.2; exact (by (with_reducible repeat (first | apply Kd.R_alloc | apply Kd.R_drewN | apply Kd.R_drew)); exact (Kd.R_mono (Kd.R_far (p := ⟨gb271, 3, none⟩) (Kd.R_far (p := ⟨gb271, 2, none⟩) (Kd.R_far (p := ⟨gb271, 1, none⟩) (Kd.R_far (p := ⟨gb271, 0, none⟩) (Kd.R_types HO_229002.out BK271.out (by decide)) (fun _ hk => hk.2) (.slice Ao122 t260.length co122)) (fun _ hk => hk.2) (.int .i64 t263)) (fun _ hk => hk.2) (.slice Ao128 t264.length co128)) (fun _ hk => hk.2) (.slice Ao129 t267.length co129)) (fun _ h_ => h_.1)))); (case side10 => exact (Kd.R_reads' HO_229002.out).2.1); (case side11 => refine (Kd.S_reads' (e := 34) (base := w.heap.size) (ok := fun k_ => (((some k_ ≠ (.slice Ao23 t221.length co23 : Value).ownBlock ∧ (some k_ ≠ (.slice Ao39 t237.length co39 : Value).ownBlock ∧ some k_ ≠ (.slice Ao40 t240.length co40 : Value).ownBlock)) ∧ some k_ ≠ (.slice Ao128 t264.length co128 : Value).ownBlock) ∧ some k_ ≠ (.slice Ao129 t267.length co129 : Value).ownBlock)) (n := t224.length) (c := co24) ?_).2.2; exact (by (with_reducible repeat (first | apply Kd.S_alloc | apply Kd.S_drewN | apply Kd.S_drew)); exact (Kd.S_mono (Kd.S_far (p := ⟨gb271, 3, none⟩) (Kd.S_far (p := ⟨gb271, 2, none⟩) (Kd.S_far (p := ⟨gb271, 1, none⟩) (Kd.S_far (p := ⟨gb271, 0, none⟩) (Kd.S_types HO_229003.out BK271.out (by decide)) (fun _ hk => hk.2) (.slice Ao122 t260.length co122)) (fun _ hk => hk.2) (.int .i64 t263)) (fun _ hk => hk.2) (.slice Ao128 t264.length co128)) (fun _ hk => hk.2) (.slice Ao129 t267.length co129)) (fun _ h_ => h_.1)))); (case side12 => exact (Kd.S_reads' HO_229003.out).2.1); rintro e w151 ⟨rfl, hb⟩; refine ⟨_, rfl, ?_⟩; have n0_ := Aside0.mk (Kd.R_below (by (with_reducible repeat (first | apply Kd.R_alloc | apply Kd.R_drewN | apply Kd.R_drew)); exact (Kd.R_mono (Kd.R_far (p := ⟨gb271, 3, none⟩) (Kd.R_far (p := ⟨gb271, 2, none⟩) (Kd.R_far (p := ⟨gb271, 1, none⟩) (Kd.R_far (p := ⟨gb271, 0, none⟩) (Kd.R_types HO_229000.out BK271.out (by decide)) (fun _ hk => hk.2) (.slice Ao122 t260.length co122)) (fun _ hk => hk.2) (.int .i64 t263)) (fun _ hk => hk.2) (.slice Ao128 t264.length co128)) (fun _ hk => hk.2) (.slice Ao129 t267.length co129)) (fun _ h_ => h_.1))) hb); have n1_ := Aside0.mk (Kd.R_below (by (with_reducible repeat (first | apply Kd.R_alloc | apply Kd.R_drewN | apply Kd.R_drew)); exact (Kd.R_mono (Kd.R_far (p := ⟨gb271, 3, none⟩) (Kd.R_far (p := ⟨gb271, 2, none⟩) (Kd.R_far (p := ⟨gb271, 1, none⟩) (Kd.R_far (p := ⟨gb271, 0, none⟩) (Kd.R_types HO_229002.out BK271.out (by decide)) (fun _ hk => hk.2) (.slice Ao122 t260.length co122)) (fun _ hk => hk.2) (.int .i64 t263)) (fun _ hk => hk.2) (.slice Ao128 t264.length co128)) (fun _ hk => hk.2) (.slice Ao129 t267.length co129)) (fun _ h_ => h_.1))) hb); have n2_ := Aside0.mk (Kd.S_below (by (with_reducible repeat (first | apply Kd.S_alloc | apply Kd.S_drewN | apply Kd.S_drew)); exact (Kd.S_mono (Kd.S_far (p := ⟨gb271, 3, none⟩) (Kd.S_far (p := ⟨gb271, 2, none⟩) (Kd.S_far (p := ⟨gb271, 1, none⟩) (Kd.S_far (p := ⟨gb271, 0, none⟩) (Kd.S_types HO_229003.out BK271.out (by decide)) (fun _ hk => hk.2) (.slice Ao122 t260.length co122)) (fun _ hk => hk.2) (.int .i64 t263)) (fun _ hk => hk.2) (.slice Ao128 t264.length co128)) (fun _ hk => hk.2) (.slice Ao129 t267.length co129)) (fun _ h_ => h_.1))) hb); have n3_ := Aside0.mk (Kd.R_below (by (with_reducible repeat (first | apply Kd.R_alloc | apply Kd.R_drewN | apply Kd.R_drew)); exact (Kd.R_mono (Kd.R_far (p := ⟨gb271, 3, none⟩) (Kd.R_far (p := ⟨gb271, 2, none⟩) (Kd.R_far (p := ⟨gb271, 1, none⟩) (Kd.R_far (p := ⟨gb271, 0, none⟩) (Kd.R_types HO_233000.out BK271.out (by decide)) (fun _ hk => hk.2) (.slice Ao122 t260.length co122)) (fun _ hk => hk.2) (.int .i64 t263)) (fun _ hk => hk.2) (.slice Ao128 t264.length co128)) (fun _ hk => hk.2) (.slice Ao129 t267.length co129)) (fun _ h_ => h_.1))) hb); have n4_ := Aside0.mk (Kd.R_below (by (with_reducible repeat (first | apply Kd.R_alloc | apply Kd.R_drewN | apply Kd.R_drew)); exact (Kd.R_mono (Kd.R_far (p := ⟨gb271, 3, none⟩) (Kd.R_far (p := ⟨gb271, 2, none⟩) (Kd.R_far (p := ⟨gb271, 1, none⟩) (Kd.R_far (p := ⟨gb271, 0, none⟩) (Kd.R_types HO_245000.out BK271.out (by decide)) (fun _ hk => hk.2) (.slice Ao122 t260.length co122)) (fun _ hk => hk.2) (.int .i64 t263)) (fun _ hk => hk.2) (.slice Ao128 t264.length co128)) (fun _ hk => hk.2) (.slice Ao129 t267.length co129)) (fun _ h_ => h_.1))) hb); have n5_ := Aside0.mk (Kd.R_below (by (with_reducible repeat (first | apply Kd.R_alloc | apply Kd.R_drewN | apply Kd.R_drew)); exact (Kd.R_mono (Kd.R_far (p := ⟨gb271, 3, none⟩) (Kd.R_far (p := ⟨gb271, 2, none⟩) (Kd.R_far (p := ⟨gb271, 1, none⟩) (Kd.R_far (p := ⟨gb271, 0, none⟩) (Kd.R_types HO_245002.out BK271.out (by decide)) (fun _ hk => hk.2) (.slice Ao122 t260.length co122)) (fun _ hk => hk.2) (.int .i64 t263)) (fun _ hk => hk.2) (.slice Ao128 t264.length co128)) (fun _ hk => hk.2) (.slice Ao129 t267.length co129)) (fun _ h_ => h_.1))) hb); have n6_ := Aside0.mk (Kd.S_below (by (with_reducible repeat (first | apply Kd.S_alloc | apply Kd.S_drewN | apply Kd.S_drew)); exact (Kd.S_mono (Kd.S_far (p := ⟨gb271, 3, none⟩) (Kd.S_far (p := ⟨gb271, 2, none⟩) (Kd.S_far (p := ⟨gb271, 1, none⟩) (Kd.S_far (p := ⟨gb271, 0, none⟩) (Kd.S_types HO_245003.out BK271.out (by decide)) (fun _ hk => hk.2) (.slice Ao122 t260.length co122)) (fun _ hk => hk.2) (.int .i64 t263)) (fun _ hk => hk.2) (.slice Ao128 t264.length co128)) (fun _ hk => hk.2) (.slice Ao129 t267.length co129)) (fun _ h_ => h_.1))) hb); have n7_ := Aside0.mk (Kd.R_below (by (with_reducible repeat (first | apply Kd.R_alloc | apply Kd.R_drewN | apply Kd.R_drew)); exact (Kd.R_mono (Kd.R_far (p := ⟨gb271, 3, none⟩) (Kd.R_far (p := ⟨gb271, 2, none⟩) (Kd.R_far (p := ⟨gb271, 1, none⟩) (Kd.R_far (p := ⟨gb271, 0, none⟩) (Kd.R_types HO259.out BK271.out (by decide)) (fun _ hk => hk.2) (.slice Ao122 t260.length co122)) (fun _ hk => hk.2) (.int .i64 t263)) (fun _ hk => hk.2) (.slice Ao128 t264.length co128)) (fun _ hk => hk.2) (.slice Ao129 t267.length co129)) (fun _ h_ => h_.1))) hb); have n8_ := Aside0.mk (Kd.R_below (by (with_reducible repeat (first | apply Kd.R_alloc | apply Kd.R_drewN | apply Kd.R_drew)); exact (Kd.R_mono (Kd.R_far (p := ⟨gb271, 3, none⟩) (Kd.R_far (p := ⟨gb271, 2, none⟩) (Kd.R_far (p := ⟨gb271, 1, none⟩) (Kd.R_far (p := ⟨gb271, 0, none⟩) (Kd.R_types HO262.out BK271.out (by decide)) (fun _ hk => hk.2) (.slice Ao122 t260.length co122)) (fun _ hk => hk.2) (.int .i64 t263)) (fun _ hk => hk.2) (.slice Ao128 t264.length co128)) (fun _ hk => hk.2) (.slice Ao129 t267.length co129)) (fun _ h_ => h_.1))) hb); have n9_ := Aside0.mk (Kd.R_below (by (with_reducible repeat (first | apply Kd.R_alloc | apply Kd.R_drewN | apply Kd.R_drew)); exact (Kd.R_mono (Kd.R_far (p := ⟨gb271, 3, none⟩) (Kd.R_far (p := ⟨gb271, 2, none⟩) (Kd.R_far (p := ⟨gb271, 1, none⟩) (Kd.R_far (p := ⟨gb271, 0, none⟩) (Kd.R_types HO266.out BK271.out (by decide)) (fun _ hk => hk.2) (.slice Ao122 t260.length co122)) (fun _ hk => hk.2) (.int .i64 t263)) (fun _ hk => hk.2) (.slice Ao128 t264.length co128)) (fun _ hk => hk.2) (.slice Ao129 t267.length co129)) (fun _ h_ => h_.1))) hb); have n10_ := Aside0.mk (Kd.S_below (by (with_reducible repeat (first | apply Kd.S_alloc | apply Kd.S_drewN | apply Kd.S_drew)); exact (Kd.S_mono (Kd.S_far (p := ⟨gb271, 3, none⟩) (Kd.S_far (p := ⟨gb271, 2, none⟩) (Kd.S_far (p := ⟨gb271, 1, none⟩) (Kd.S_far (p := ⟨gb271, 0, none⟩) (Kd.S_types HO269.out BK271.out (by decide)) (fun _ hk => hk.2) (.slice Ao122 t260.length co122)) (fun _ hk => hk.2) (.int .i64 t263)) (fun _ hk => hk.2) (.slice Ao128 t264.length co128)) (fun _ hk => hk.2) (.slice Ao129 t267.length co129)) (fun _ h_ => h_.1))) hb); have n11_ := Aside0.mk (blk_below (g := gb212) (o := .cells #[.slice A0_0 l0_0.length c0_0] 24 (0, 0)) (by (with_reducible repeat (first | refine blk_drewN ?_ _ | refine blk_drew ?_ | refine blk_alloc ?_ _)); refine blk_far ?_ NB212_271.out _; (with_reducible repeat (first | refine blk_drewN ?_ _ | refine blk_drew ?_ | refine blk_alloc ?_ _)); refine blk_far ?_ NB212_271.out _; (with_reducible repeat (first | refine blk_drewN ?_ _ | refine blk_drew ?_ | refine blk_alloc ?_ _)); refine blk_far ?_ NB212_271.out _; (with_reducible repeat (first | refine blk_drewN ?_ _ | refine blk_drew ?_ | refine blk_alloc ?_ _)); refine blk_far ?_ NB212_271.out _; (with_reducible repeat (first | refine blk_drewN ?_ _ | refine blk_drew ?_ | refine blk_alloc ?_ _)); exact BK212.out) hb); have n12_ := Aside0.mk (blk_below (g := gb228) (o := .cells #[.slice Ao20 t217.length co20, .int .i64 t220, .slice Ao23 t221.length co23, .slice Ao24 t224.length co24] 37 (0, 0)) (by (with_reducible repeat (first | refine blk_drewN ?_ _ | refine blk_drew ?_ | refine blk_alloc ?_ _)); refine blk_far ?_ NB228_271.out _; (with_reducible repeat (first | refine blk_drewN ?_ _ | refine blk_drew ?_ | refine blk_alloc ?_ _)); refine blk_far ?_ NB228_271.out _; (with_reducible repeat (first | refine blk_drewN ?_ _ | refine blk_drew ?_ | refine blk_alloc ?_ _)); refine blk_far ?_ NB228_271.out _; (with_reducible repeat (first | refine blk_drewN ?_ _ | refine blk_drew ?_ | refine blk_alloc ?_ _)); refine blk_far ?_ NB228_271.out _; (with_reducible repeat (first | refine blk_drewN ?_ _ | refine blk_drew ?_ | refine blk_alloc ?_ _)); exact BK228.out) hb); have n13_ := Aside0.mk (blk_below (g := gb232) (o := .cells #[.slice Ao28 t251.length co28] 30 (0, 0)) (by (with_reducible repeat (first | refine blk_drewN ?_ _ | refine blk_drew ?_ | refine blk_alloc ?_ _)); refine blk_far ?_ NB232_271.out _; (with_reducible repeat (first | refine blk_drewN ?_ _ | refine blk_drew ?_ | refine blk_alloc ?_ _)); refine blk_far ?_ NB232_271.out _; (with_reducible repeat (first | refine blk_drewN ?_ _ | refine blk_drew ?_ | refine blk_alloc ?_ _)); refine blk_far ?_ NB232_271.out _; (with_reducible repeat (first | refine blk_drewN ?_ _ | refine blk_drew ?_ | refine blk_alloc ?_ _)); refine blk_far ?_ NB232_271.out _; (with_reducible repeat (first | refine blk_drewN ?_ _ | refine blk_drew ?_ | refine blk_alloc ?_ _)); exact BK232.out) hb); have n14_ := Aside0.mk (blk_below (g := gb244) (o := .cells #[.slice Ao34 t233.length co34, .int .i64 t236, .slice Ao39 t237.length co39, .slice Ao40 t240.length co40] 37 (0, 0)) (by (with_reducible repeat (first | refine blk_drewN ?_ _ | refine blk_drew ?_ | refine blk_alloc ?_ _)); refine blk_far ?_ NB244_271.out _; (with_reducible repeat (first | refine blk_drewN ?_ _ | refine blk_drew ?_ | refine blk_alloc ?_ _)); refine blk_far ?_ NB244_271.out _; (with_reducible repeat (first | refine blk_drewN ?_ _ | refine blk_drew ?_ | refine blk_alloc ?_ _)); refine blk_far ?_ NB244_271.out _; (with_reducible repeat (first | refine blk_drewN ?_ _ | refine blk_drew ?_ | refine blk_alloc ?_ _)); refine blk_far ?_ NB244_271.out _; (with_reducible repeat (first | refine blk_drewN ?_ _ | refine blk_drew ?_ | refine blk_alloc ?_ _)); exact BK244.out) hb); have n15_ := Aside0.mk (blk_below (g := gb271) (o := .cells #[.slice Ao122 t260.length co122, .int .i64 t263, .slice Ao128 t264.length co128, .slice Ao129 t267.length co129] 37 (0, 0)) (by (with_reducible repeat (first | refine blk_drewN ?_ _ | refine blk_drew ?_ | refine blk_alloc ?_ _)); refine blk_put (cs := #[.slice Ao122 t260.length co122, .int .i64 t263, .slice Ao128 t264.length co128, .slice none 0 0]) ?_ 3 _ rfl; (with_reducible repeat (first | refine blk_drewN ?_ _ | refine blk_drew ?_ | refine blk_alloc ?_ _)); refine blk_put (cs := #[.slice Ao122 t260.length co122, .int .i64 t263, .slice none 0 0, .slice none 0 0]) ?_ 2 _ rfl; (with_reducible repeat (first | refine blk_drewN ?_ _ | refine blk_drew ?_ | refine blk_alloc ?_ _)); refine blk_put (cs := #[.slice Ao122 t260.length co122, .int .i64 0, .slice none 0 0, .slice none 0 0]) ?_ 1 _ rfl; (with_reducible repeat (first | refine blk_drewN ?_ _ | refine blk_drew ?_ | refine blk_alloc ?_ _)); refine blk_put (cs := #[.slice none 0 0, .int .i64 0, .slice none 0 0, .slice none 0 0]) ?_ 0 _ rfl; (with_reducible repeat (first | refine blk_drewN ?_ _ | refine blk_drew ?_ | refine blk_alloc ?_ _)); exact BK271.out) hb); have n16_ := Aside0.mk (below_step (by repeat (first | (with_reducible first | exact HB.out | apply below_alloc | apply pw_below_drewN | apply below_drew1 | refine below_set ?_ GE212.out | refine below_set ?_ GE228.out | refine below_set ?_ GE232.out | refine below_set ?_ GE244.out | refine below_set ?_ GE271.out) | exact HB.out)) hb); clear HO_229000; clear HO_229002; clear HO_229003; clear HO_233000; clear HO_245000; clear HO_245002; clear HO_245003; clear HO259; clear HO262; clear HO266; clear HO269; clear BK212; clear BK228; clear BK232; clear BK244; clear BK271; clear HB; have HO_229000 := n0_; have HO_229002 := n1_; have HO_229003 := n2_; have HO_233000 := n3_; have HO_245000 := n4_; have HO_245002 := n5_; have HO_245003 := n6_; have HO259 := n7_; have HO262 := n8_; have HO266 := n9_; have HO269 := n10_; have BK212 := n11_; have BK228 := n12_; have BK232 := n13_; have BK244 := n14_; have BK271 := n15_; have HB := n16_; clear n0_ n1_ n2_ n3_ n4_ n5_ n6_ n7_ n8_ n9_ n10_ n11_ n12_ n13_ n14_ n15_ n16_; (try clear hb); (try clear hb2); (try clear hk); (try clear hi)))
             go_meet
             case rel => exact ⟨_, (true), (by first | rfl | (simp; done) | (simp [*]; done)), H', ⟨by have := HJ10.out; have := HJ63.out; first | omega | exact Nat.le_refl _⟩, ⟨by (try simp only [hl233000_63]); (with_reducible repeat (first | apply Kd.R_alloc | apply Kd.R_drewN | apply Kd.R_drew)); exact Kd.R_mono HO_229000.out (fun _ hk => ⟨hk.1.1.1, ⟨hk.1.1.2, hk.2⟩⟩)⟩, ⟨by (try simp only [hl233000_63]); (with_reducible repeat (first | apply Kd.R_alloc | apply Kd.R_drewN | apply Kd.R_drew)); exact HO_229002.out⟩, ⟨by (try simp only [hl233000_63]); (with_reducible repeat (first | apply Kd.S_alloc | apply Kd.S_drewN | apply Kd.S_drew)); exact Kd.S_mono HO_229003.out (fun _ hk => ⟨hk.1.1.1, ⟨hk.1.1.2.1, ⟨hk.1.1.2.2, ⟨hk.1.2, hk.2⟩⟩⟩⟩)⟩, ⟨by (try simp only [hl233000_63]); (with_reducible repeat (first | apply Kd.R_alloc | apply Kd.R_drewN | apply Kd.R_drew)); exact Kd.R_mono HO_233000.out (fun _ hk => ⟨hk.1.1.1, ⟨hk.1.1.2, hk.2⟩⟩)⟩, ⟨by (try simp only [hl233000_63]); (with_reducible repeat (first | apply Kd.R_alloc | apply Kd.R_drewN | apply Kd.R_drew)); exact Kd.R_mono HO_245000.out (fun _ hk => ⟨hk.1.1.1, ⟨hk.1.1.2, hk.2⟩⟩)⟩, ⟨by (try simp only [hl233000_63]); (with_reducible repeat (first | apply Kd.R_alloc | apply Kd.R_drewN | apply Kd.R_drew)); exact HO_245002.out⟩, ⟨by (try simp only [hl233000_63]); (with_reducible repeat (first | apply Kd.S_alloc | apply Kd.S_drewN | apply Kd.S_drew)); exact Kd.S_mono HO_245003.out (fun _ hk => ⟨hk.1.1.1, ⟨hk.1.1.2.1, ⟨hk.1.1.2.2, ⟨hk.1.2, hk.2⟩⟩⟩⟩)⟩, ⟨by (try simp only [hl233000_63]); (with_reducible repeat (first | apply Kd.R_alloc | apply Kd.R_drewN | apply Kd.R_drew)); exact Kd.R_mono HO262.out (fun _ hk => ⟨hk.1.1.1.2, ⟨hk.1.1.2, hk.1.2⟩⟩)⟩, ⟨by (try simp only [hl233000_63]); (with_reducible repeat (first | apply Kd.R_alloc | apply Kd.R_drewN | apply Kd.R_drew)); exact Kd.R_mono HO266.out (fun _ hk => ⟨hk.1.2, hk.2⟩)⟩, ⟨by (try simp only [hl233000_63]); (with_reducible repeat (first | apply Kd.S_alloc | apply Kd.S_drewN | apply Kd.S_drew)); exact Kd.S_mono HO269.out (fun _ hk => ⟨hk.1.1.1.2, ⟨hk.1.1.2, ⟨hk.1.2, ⟨hk.2, hk.1.1.1.1⟩⟩⟩⟩)⟩, ⟨by (try simp only [hl233000_63]); (with_reducible repeat (first | refine blk_drewN ?_ _ | refine blk_drew ?_ | refine blk_alloc ?_ _)); exact BK212.out⟩, ⟨by (try simp only [hl233000_63]); (with_reducible repeat (first | refine blk_drewN ?_ _ | refine blk_drew ?_ | refine blk_alloc ?_ _)); exact BK228.out⟩, ⟨by (try simp only [hl233000_63]); (with_reducible repeat (first | refine blk_drewN ?_ _ | refine blk_drew ?_ | refine blk_alloc ?_ _)); exact BK232.out⟩, ⟨by (try simp only [hl233000_63]); (with_reducible repeat (first | refine blk_drewN ?_ _ | refine blk_drew ?_ | refine blk_alloc ?_ _)); exact BK244.out⟩, ⟨by (try simp only [hl233000_63]); (with_reducible repeat (first | refine blk_drewN ?_ _ | refine blk_drew ?_ | refine blk_alloc ?_ _)); exact BK271.out⟩, ⟨by repeat (first | (with_reducible first | exact HB.out | apply below_alloc | apply pw_below_drewN | apply below_drew1 | refine below_set ?_ GE212.out | refine below_set ?_ GE228.out | refine below_set ?_ GE232.out | refine below_set ?_ GE244.out | refine below_set ?_ GE271.out) | exact HB.out)⟩⟩
           case rest =>
            clear HC107
            try clear c1
            try clear c2
            try clear p2
            try clear c3
            try clear c3b0
            try clear c4
            try clear c5
            try clear c6
            try clear c7
            try clear c8
            try clear c9
            try clear c10
            try clear c11
            try clear c12
            try clear c13
            try clear c14
            try clear c15
            try clear c21
            try clear c29
            try clear c30
            try clear c35
            try clear c36
            try clear c37
            try clear c42
            try clear c43
            try clear c44
            try clear c45
            try clear c47
            try clear c48
            try clear c51
            try clear c52
            try clear c53
            try clear c55
            try clear c56
            try clear c59
            try clear c62
            try clear c69
            try clear c70
            try clear c71
            try clear c74
            try clear c74b0
            try clear c74b1
            try clear c76
            try clear c77
            try clear c78
            try clear c79
            try clear c81
            try clear c82
            try clear c85
            try clear c86
            try clear c87
            try clear c89
            try clear c90
            try clear c93
            try clear c96
            try clear c96b0
            try clear c97
            try clear c98
            try clear c99
            try clear c104
            try clear c104b0
            try clear c104b1
            try clear c108
            try clear c109
            try clear c110
            try clear c115
            try clear c116
            try clear c123
            try clear c124
            try clear c125
            try clear c126
            try clear c131
            try clear c132
            try clear c133
            try clear c134
            try clear c135
            try clear c137
            try clear c138
            try clear c139
            try clear c142
            try clear c143
            try clear c144
            try clear c145
            try clear c147
            try clear c148
            try clear c149
            try clear hcz100_0
            try clear hcz100_1
            try clear hcz100_2
            try clear hcz100_3
            try clear hcz102_0
            try clear hcz102_1
            try clear hcz102_2
            try clear hcz102_3
            try clear hcz111_0
            try clear hcz111_1
            try clear hcz111_2
            try clear hcz111_3
            try clear hcz113_0
            try clear hcz113_1
            try clear hcz113_2
            try clear hcz113_3
            try clear hcz117_0
            try clear hcz127_0
            try clear hcz127_1
            try clear hcz127_2
            try clear hcz127_3
            try clear hcz136_0
            try clear hcz136_1
            try clear hcz136_2
            try clear hcz136_3
            try clear hcz13_0
            try clear hcz140_0
            try clear hcz140_1
            try clear hcz140_2
            try clear hcz140_3
            try clear hcz146_0
            try clear hcz146_1
            try clear hcz146_2
            try clear hcz146_3
            try clear hcz150_0
            try clear hcz150_1
            try clear hcz150_2
            try clear hcz150_3
            try clear hcz15_0
            try clear hcz22_0
            try clear hcz22_1
            try clear hcz22_2
            try clear hcz22_3
            try clear hcz25_0
            try clear hcz31_0
            try clear hcz38_0
            try clear hcz38_1
            try clear hcz38_2
            try clear hcz38_3
            try clear hcz46_0
            try clear hcz46_1
            try clear hcz46_2
            try clear hcz46_3
            try clear hcz49_0
            try clear hcz49_1
            try clear hcz49_2
            try clear hcz49_3
            try clear hcz54_0
            try clear hcz54_1
            try clear hcz54_2
            try clear hcz54_3
            try clear hcz57_0
            try clear hcz57_1
            try clear hcz57_2
            try clear hcz57_3
            try clear hcz5_0
            try clear hcz72_0
            try clear hcz80_0
            try clear hcz80_1
            try clear hcz80_2
            try clear hcz80_3
            try clear hcz83_0
            try clear hcz83_1
            try clear hcz83_2
            try clear hcz83_3
            try clear hcz88_0
            try clear hcz88_1
            try clear hcz88_2
            try clear hcz88_3
            try clear hcz91_0
            try clear hcz91_1
            try clear hcz91_2
            try clear hcz91_3
            try clear hfz100_0
            try clear hfz100_1
            try clear hfz100_2
            try clear hfz100_3
            try clear hfz102_0
            try clear hfz102_1
            try clear hfz102_2
            try clear hfz102_3
            try clear hfz111_0
            try clear hfz111_1
            try clear hfz111_2
            try clear hfz111_3
            try clear hfz113_0
            try clear hfz113_1
            try clear hfz113_2
            try clear hfz113_3
            try clear hfz117_0
            try clear hfz127_0
            try clear hfz127_1
            try clear hfz127_2
            try clear hfz127_3
            try clear hfz136_0
            try clear hfz136_1
            try clear hfz136_2
            try clear hfz136_3
            try clear hfz13_0
            try clear hfz140_0
            try clear hfz140_1
            try clear hfz140_2
            try clear hfz140_3
            try clear hfz146_0
            try clear hfz146_1
            try clear hfz146_2
            try clear hfz146_3
            try clear hfz150_0
            try clear hfz150_1
            try clear hfz150_2
            try clear hfz150_3
            try clear hfz15_0
            try clear hfz22_0
            try clear hfz22_1
            try clear hfz22_2
            try clear hfz22_3
            try clear hfz25_0
            try clear hfz31_0
            try clear hfz38_0
            try clear hfz38_1
            try clear hfz38_2
            try clear hfz38_3
            try clear hfz46_0
            try clear hfz46_1
            try clear hfz46_2
            try clear hfz46_3
            try clear hfz49_0
            try clear hfz49_1
            try clear hfz49_2
            try clear hfz49_3
            try clear hfz54_0
            try clear hfz54_1
            try clear hfz54_2
            try clear hfz54_3
            try clear hfz57_0
            try clear hfz57_1
            try clear hfz57_2
            try clear hfz57_3
            try clear hfz5_0
            try clear hfz72_0
            try clear hfz80_0
            try clear hfz80_1
            try clear hfz80_2
            try clear hfz80_3
            try clear hfz83_0
            try clear hfz83_1
            try clear hfz83_2
            try clear hfz83_3
            try clear hfz88_0
            try clear hfz88_1
            try clear hfz88_2
            try clear hfz88_3
            try clear hfz91_0
            try clear hfz91_1
            try clear hfz91_2
            try clear hfz91_3
            try clear p2
            obtain ⟨kq, x87_106, rfl, HA, HJ106, HO_229000, HO_229002, HO_229003, HO_233000, HO_245000, HO_245002, HO_245003, HO_272000, HO_272002, HO_272003, BK212, BK228, BK232, BK244, BK271, HB⟩ := hcut
            have hl245000_106 := (Kd.R_reads' HO_245000.out).1
            rw [hl245000_106] at HO_245000
            (try simp only [hl245000_106])
            (try simp only [hl245000_106] at BK212)
            (try simp only [hl245000_106] at BK228)
            (try simp only [hl245000_106] at BK232)
            (try simp only [hl245000_106] at BK244)
            (try simp only [hl245000_106] at BK271)
            (try simp only [hl245000_106] at HO_229000)
            (try simp only [hl245000_106] at HO_229002)
            (try simp only [hl245000_106] at HO_229003)
            (try simp only [hl245000_106] at HO_233000)
            (try simp only [hl245000_106] at HO_245002)
            (try simp only [hl245000_106] at HO_245003)
            (try simp only [hl245000_106] at HO_272000)
            (try simp only [hl245000_106] at HO_272002)
            (try simp only [hl245000_106] at HO_272003)
            have hl245002_106 := (Kd.R_reads' HO_245002.out).1
            rw [hl245002_106] at HO_245002
            (try simp only [hl245002_106])
            (try simp only [hl245002_106] at BK212)
            (try simp only [hl245002_106] at BK228)
            (try simp only [hl245002_106] at BK232)
            (try simp only [hl245002_106] at BK244)
            (try simp only [hl245002_106] at BK271)
            (try simp only [hl245002_106] at HO_229000)
            (try simp only [hl245002_106] at HO_229002)
            (try simp only [hl245002_106] at HO_229003)
            (try simp only [hl245002_106] at HO_233000)
            (try simp only [hl245002_106] at HO_245000)
            (try simp only [hl245002_106] at HO_245003)
            (try simp only [hl245002_106] at HO_272000)
            (try simp only [hl245002_106] at HO_272002)
            (try simp only [hl245002_106] at HO_272003)
            cases kq with
            | zero => exact absurd HA.out (by simp [laws_FnExactStartWatcher.j2])
            | succ kj106 =>
             have H := HA.out
             clear HA
             simp only [laws_FnExactStartWatcher.j2] at H
             by_cases c152 : x87_106 = true
             ·subst c152
              have H1 : (some false) = some r := by rw [if_pos rfl] at H; exact H
              clear H
              have H := H1
              clear H1
              obtain rfl := Option.some.inj H
              go_wp2
              go_ret
              exact ⟨by first | rfl | (simp [errW_none, errW_some] <;> rfl) | (simp [*, errW_none, errW_some] <;> rfl), by repeat (first | (with_reducible first | exact HB.out | apply below_alloc | apply pw_below_drewN | apply below_drew1 | refine below_set ?_ GE212.out | refine below_set ?_ GE228.out | refine below_set ?_ GE232.out | refine below_set ?_ GE244.out | refine below_set ?_ GE271.out) | exact HB.out)⟩
             ·replace c152 := Bool.eq_false_iff.mpr c152
              subst c152
              have H1 : ((laws_heldWatcher.f kj106 t254 t236 t255 t240 1).bind fun t273 => (if t273 < 0 then (some false) else (if t273 = t253 then (some true) else (some false)))) = some r := by rw [if_neg (show ¬ (false = true) by decide)] at H; exact H
              clear H
              have H := H1
              clear H1
              replace H := Option.bind_eq_some_iff.mp H
              obtain ⟨t273, A1530, H⟩ := H
              replace H : (if t273 < 0 then (some false) else (if t273 = t253 then (some true) else (some false))) = some r := H
              have A153 := Aside0.mk A1530
              clear A1530
              by_cases c154 : t273 < 0
              ·rw [if_pos c154] at H
               have c154b0 : decide (t273 < 0) = true := decide_eq_true c154
               clear c154
               obtain rfl := Option.some.inj H
               have hnb155 := NB244_212.out
               have hnc155 := NB212_244.out
               have hnb156 := NB244_228.out
               have hnc156 := NB228_244.out
               have hnb157 := NB244_232.out
               have hnc157 := NB232_244.out
               have hnb158 := NB244_271.out
               have hnc158 := NB271_244.out
               have hcz159_0 : wc.cell? ⟨gb244, 0, none⟩ = some (.slice Ao34 t254.length co34) := (blk_cell BK244.out 0).trans rfl
               have hcz159_1 : wc.cell? ⟨gb244, 1, none⟩ = some (.int .i64 t236) := (blk_cell BK244.out 1).trans rfl
               have hcz159_2 : wc.cell? ⟨gb244, 2, none⟩ = some (.slice Ao39 t255.length co39) := (blk_cell BK244.out 2).trans rfl
               have hcz159_3 : wc.cell? ⟨gb244, 3, none⟩ = some (.slice Ao40 t240.length co40) := (blk_cell BK244.out 3).trans rfl
               have hfz159_0 := blk_frozen BK244.out 0
               have hfz159_1 := blk_frozen BK244.out 1
               have hfz159_2 := blk_frozen BK244.out 2
               have hfz159_3 := blk_frozen BK244.out 3
               go_wp2_with (first | ((with_reducible refine gate_callee (f := 15) rfl ?_); refine goesL_ (some 90) rfl rfl Try.func15 (by kernel_rfl) rfl #[.agg #[.slice Ao34 t254.length co34, .int .i64 t236, .slice Ao39 t255.length co39, .slice Ao40 t240.length co40], .int .i64 1] rfl (by (try simp only [List.map_toArray, List.map_cons, List.map_nil]); first | done | rfl | (simp only [List.length_drop, List.length_take]; rfl)) ?_; (with_reducible refine (laws_heldWatcher.calls kj106 _ _ t254 t236 _ _ t255 _ _ t240 1 t273 _ ?side1 ?side2 ?side3 ?side4 ?side5 ?side6 A153.out).mono ?_); (case side1 => repeat (first | exact (Kd.R_reads' HO_245000.out).2.2 | (with_reducible refine Kd.C_alloc ?_ _) | (with_reducible refine Kd.C_drewN ?_ _) | (with_reducible refine Kd.C_drew ?_))); (case side2 => exact (Kd.R_reads' HO_245000.out).2.1); (case side3 => repeat (first | exact (Kd.R_reads' HO_245002.out).2.2 | (with_reducible refine Kd.C_alloc ?_ _) | (with_reducible refine Kd.C_drewN ?_ _) | (with_reducible refine Kd.C_drew ?_))); (case side4 => exact (Kd.R_reads' HO_245002.out).2.1); (case side5 => repeat (first | exact (Kd.S_reads' HO_245003.out).2.2 | (with_reducible refine Kd.C_alloc ?_ _) | (with_reducible refine Kd.C_drewN ?_ _) | (with_reducible refine Kd.C_drew ?_))); (case side6 => exact (Kd.S_reads' HO_245003.out).2.1); rintro e w160 ⟨rfl, hb⟩; refine ⟨_, rfl, ?_⟩; have n0_ := Aside0.mk (Kd.R_below (by (with_reducible repeat (first | apply Kd.R_alloc | apply Kd.R_drewN | apply Kd.R_drew)); exact HO_229000.out) hb); have n1_ := Aside0.mk (Kd.R_below (by (with_reducible repeat (first | apply Kd.R_alloc | apply Kd.R_drewN | apply Kd.R_drew)); exact HO_229002.out) hb); have n2_ := Aside0.mk (Kd.S_below (by (with_reducible repeat (first | apply Kd.S_alloc | apply Kd.S_drewN | apply Kd.S_drew)); exact HO_229003.out) hb); have n3_ := Aside0.mk (Kd.R_below (by (with_reducible repeat (first | apply Kd.R_alloc | apply Kd.R_drewN | apply Kd.R_drew)); exact HO_233000.out) hb); have n4_ := Aside0.mk (Kd.R_below (by (with_reducible repeat (first | apply Kd.R_alloc | apply Kd.R_drewN | apply Kd.R_drew)); exact HO_245000.out) hb); have n5_ := Aside0.mk (Kd.R_below (by (with_reducible repeat (first | apply Kd.R_alloc | apply Kd.R_drewN | apply Kd.R_drew)); exact HO_245002.out) hb); have n6_ := Aside0.mk (Kd.S_below (by (with_reducible repeat (first | apply Kd.S_alloc | apply Kd.S_drewN | apply Kd.S_drew)); exact HO_245003.out) hb); have n7_ := Aside0.mk (Kd.R_below (by (with_reducible repeat (first | apply Kd.R_alloc | apply Kd.R_drewN | apply Kd.R_drew)); exact HO_272000.out) hb); have n8_ := Aside0.mk (Kd.R_below (by (with_reducible repeat (first | apply Kd.R_alloc | apply Kd.R_drewN | apply Kd.R_drew)); exact HO_272002.out) hb); have n9_ := Aside0.mk (Kd.S_below (by (with_reducible repeat (first | apply Kd.S_alloc | apply Kd.S_drewN | apply Kd.S_drew)); exact HO_272003.out) hb); have n10_ := Aside0.mk (blk_below (g := gb212) (o := .cells #[.slice A0_0 l0_0.length c0_0] 24 (0, 0)) (by (with_reducible repeat (first | refine blk_drewN ?_ _ | refine blk_drew ?_ | refine blk_alloc ?_ _)); exact BK212.out) hb); have n11_ := Aside0.mk (blk_below (g := gb228) (o := .cells #[.slice Ao20 t217.length co20, .int .i64 t220, .slice Ao23 t221.length co23, .slice Ao24 t224.length co24] 37 (0, 0)) (by (with_reducible repeat (first | refine blk_drewN ?_ _ | refine blk_drew ?_ | refine blk_alloc ?_ _)); exact BK228.out) hb); have n12_ := Aside0.mk (blk_below (g := gb232) (o := .cells #[.slice Ao28 t251.length co28] 30 (0, 0)) (by (with_reducible repeat (first | refine blk_drewN ?_ _ | refine blk_drew ?_ | refine blk_alloc ?_ _)); exact BK232.out) hb); have n13_ := Aside0.mk (blk_below (g := gb244) (o := .cells #[.slice Ao34 t254.length co34, .int .i64 t236, .slice Ao39 t255.length co39, .slice Ao40 t240.length co40] 37 (0, 0)) (by (with_reducible repeat (first | refine blk_drewN ?_ _ | refine blk_drew ?_ | refine blk_alloc ?_ _)); exact BK244.out) hb); have n14_ := Aside0.mk (blk_below (g := gb271) (o := .cells #[.slice Ao122 t260.length co122, .int .i64 t263, .slice Ao128 t264.length co128, .slice Ao129 t267.length co129] 37 (0, 0)) (by (with_reducible repeat (first | refine blk_drewN ?_ _ | refine blk_drew ?_ | refine blk_alloc ?_ _)); exact BK271.out) hb); have n15_ := Aside0.mk (below_step (by repeat (first | (with_reducible first | exact HB.out | apply below_alloc | apply pw_below_drewN | apply below_drew1 | refine below_set ?_ GE212.out | refine below_set ?_ GE228.out | refine below_set ?_ GE232.out | refine below_set ?_ GE244.out | refine below_set ?_ GE271.out) | exact HB.out)) hb); clear HO_229000; clear HO_229002; clear HO_229003; clear HO_233000; clear HO_245000; clear HO_245002; clear HO_245003; clear HO_272000; clear HO_272002; clear HO_272003; clear BK212; clear BK228; clear BK232; clear BK244; clear BK271; clear HB; have HO_229000 := n0_; have HO_229002 := n1_; have HO_229003 := n2_; have HO_233000 := n3_; have HO_245000 := n4_; have HO_245002 := n5_; have HO_245003 := n6_; have HO_272000 := n7_; have HO_272002 := n8_; have HO_272003 := n9_; have BK212 := n10_; have BK228 := n11_; have BK232 := n12_; have BK244 := n13_; have BK271 := n14_; have HB := n15_; clear n0_ n1_ n2_ n3_ n4_ n5_ n6_ n7_ n8_ n9_ n10_ n11_ n12_ n13_ n14_ n15_; (try clear hb); (try clear hb2); (try clear hk); (try clear hi)))
               go_ret
               exact ⟨by first | rfl | (simp [errW_none, errW_some] <;> rfl) | (simp [*, errW_none, errW_some] <;> rfl), by repeat (first | (with_reducible first | exact HB.out | apply below_alloc | apply pw_below_drewN | apply below_drew1 | refine below_set ?_ GE212.out | refine below_set ?_ GE228.out | refine below_set ?_ GE232.out | refine below_set ?_ GE244.out | refine below_set ?_ GE271.out) | exact HB.out)⟩
              ·rw [if_neg c154] at H
               have c154b0 : decide (t273 < 0) = false := decide_eq_false c154
               clear c154
               by_cases c161 : t273 = t253
               ·rw [if_pos c161] at H
                have c161b0 : (t273 == t253) = true := beq_iff_eq.mpr c161
                have c161b1 : (t273 != t253) = false := bne_eq_false_iff_eq.mpr c161
                clear c161
                obtain rfl := Option.some.inj H
                have hnb162 := NB244_212.out
                have hnc162 := NB212_244.out
                have hnb163 := NB244_228.out
                have hnc163 := NB228_244.out
                have hnb164 := NB244_232.out
                have hnc164 := NB232_244.out
                have hnb165 := NB244_271.out
                have hnc165 := NB271_244.out
                have hcz166_0 : wc.cell? ⟨gb244, 0, none⟩ = some (.slice Ao34 t254.length co34) := (blk_cell BK244.out 0).trans rfl
                have hcz166_1 : wc.cell? ⟨gb244, 1, none⟩ = some (.int .i64 t236) := (blk_cell BK244.out 1).trans rfl
                have hcz166_2 : wc.cell? ⟨gb244, 2, none⟩ = some (.slice Ao39 t255.length co39) := (blk_cell BK244.out 2).trans rfl
                have hcz166_3 : wc.cell? ⟨gb244, 3, none⟩ = some (.slice Ao40 t240.length co40) := (blk_cell BK244.out 3).trans rfl
                have hfz166_0 := blk_frozen BK244.out 0
                have hfz166_1 := blk_frozen BK244.out 1
                have hfz166_2 := blk_frozen BK244.out 2
                have hfz166_3 := blk_frozen BK244.out 3
                go_wp2_with (first | ((with_reducible refine gate_callee (f := 15) rfl ?_); refine goesL_ (some 90) rfl rfl Try.func15 (by kernel_rfl) rfl #[.agg #[.slice Ao34 t254.length co34, .int .i64 t236, .slice Ao39 t255.length co39, .slice Ao40 t240.length co40], .int .i64 1] rfl (by (try simp only [List.map_toArray, List.map_cons, List.map_nil]); first | done | rfl | (simp only [List.length_drop, List.length_take]; rfl)) ?_; (with_reducible refine (laws_heldWatcher.calls kj106 _ _ t254 t236 _ _ t255 _ _ t240 1 t273 _ ?side1 ?side2 ?side3 ?side4 ?side5 ?side6 A153.out).mono ?_); (case side1 => repeat (first | exact (Kd.R_reads' HO_245000.out).2.2 | (with_reducible refine Kd.C_alloc ?_ _) | (with_reducible refine Kd.C_drewN ?_ _) | (with_reducible refine Kd.C_drew ?_))); (case side2 => exact (Kd.R_reads' HO_245000.out).2.1); (case side3 => repeat (first | exact (Kd.R_reads' HO_245002.out).2.2 | (with_reducible refine Kd.C_alloc ?_ _) | (with_reducible refine Kd.C_drewN ?_ _) | (with_reducible refine Kd.C_drew ?_))); (case side4 => exact (Kd.R_reads' HO_245002.out).2.1); (case side5 => repeat (first | exact (Kd.S_reads' HO_245003.out).2.2 | (with_reducible refine Kd.C_alloc ?_ _) | (with_reducible refine Kd.C_drewN ?_ _) | (with_reducible refine Kd.C_drew ?_))); (case side6 => exact (Kd.S_reads' HO_245003.out).2.1); rintro e w167 ⟨rfl, hb⟩; refine ⟨_, rfl, ?_⟩; have n0_ := Aside0.mk (Kd.R_below (by (with_reducible repeat (first | apply Kd.R_alloc | apply Kd.R_drewN | apply Kd.R_drew)); exact HO_229000.out) hb); have n1_ := Aside0.mk (Kd.R_below (by (with_reducible repeat (first | apply Kd.R_alloc | apply Kd.R_drewN | apply Kd.R_drew)); exact HO_229002.out) hb); have n2_ := Aside0.mk (Kd.S_below (by (with_reducible repeat (first | apply Kd.S_alloc | apply Kd.S_drewN | apply Kd.S_drew)); exact HO_229003.out) hb); have n3_ := Aside0.mk (Kd.R_below (by (with_reducible repeat (first | apply Kd.R_alloc | apply Kd.R_drewN | apply Kd.R_drew)); exact HO_233000.out) hb); have n4_ := Aside0.mk (Kd.R_below (by (with_reducible repeat (first | apply Kd.R_alloc | apply Kd.R_drewN | apply Kd.R_drew)); exact HO_245000.out) hb); have n5_ := Aside0.mk (Kd.R_below (by (with_reducible repeat (first | apply Kd.R_alloc | apply Kd.R_drewN | apply Kd.R_drew)); exact HO_245002.out) hb); have n6_ := Aside0.mk (Kd.S_below (by (with_reducible repeat (first | apply Kd.S_alloc | apply Kd.S_drewN | apply Kd.S_drew)); exact HO_245003.out) hb); have n7_ := Aside0.mk (Kd.R_below (by (with_reducible repeat (first | apply Kd.R_alloc | apply Kd.R_drewN | apply Kd.R_drew)); exact HO_272000.out) hb); have n8_ := Aside0.mk (Kd.R_below (by (with_reducible repeat (first | apply Kd.R_alloc | apply Kd.R_drewN | apply Kd.R_drew)); exact HO_272002.out) hb); have n9_ := Aside0.mk (Kd.S_below (by (with_reducible repeat (first | apply Kd.S_alloc | apply Kd.S_drewN | apply Kd.S_drew)); exact HO_272003.out) hb); have n10_ := Aside0.mk (blk_below (g := gb212) (o := .cells #[.slice A0_0 l0_0.length c0_0] 24 (0, 0)) (by (with_reducible repeat (first | refine blk_drewN ?_ _ | refine blk_drew ?_ | refine blk_alloc ?_ _)); exact BK212.out) hb); have n11_ := Aside0.mk (blk_below (g := gb228) (o := .cells #[.slice Ao20 t217.length co20, .int .i64 t220, .slice Ao23 t221.length co23, .slice Ao24 t224.length co24] 37 (0, 0)) (by (with_reducible repeat (first | refine blk_drewN ?_ _ | refine blk_drew ?_ | refine blk_alloc ?_ _)); exact BK228.out) hb); have n12_ := Aside0.mk (blk_below (g := gb232) (o := .cells #[.slice Ao28 t251.length co28] 30 (0, 0)) (by (with_reducible repeat (first | refine blk_drewN ?_ _ | refine blk_drew ?_ | refine blk_alloc ?_ _)); exact BK232.out) hb); have n13_ := Aside0.mk (blk_below (g := gb244) (o := .cells #[.slice Ao34 t254.length co34, .int .i64 t236, .slice Ao39 t255.length co39, .slice Ao40 t240.length co40] 37 (0, 0)) (by (with_reducible repeat (first | refine blk_drewN ?_ _ | refine blk_drew ?_ | refine blk_alloc ?_ _)); exact BK244.out) hb); have n14_ := Aside0.mk (blk_below (g := gb271) (o := .cells #[.slice Ao122 t260.length co122, .int .i64 t263, .slice Ao128 t264.length co128, .slice Ao129 t267.length co129] 37 (0, 0)) (by (with_reducible repeat (first | refine blk_drewN ?_ _ | refine blk_drew ?_ | refine blk_alloc ?_ _)); exact BK271.out) hb); have n15_ := Aside0.mk (below_step (by repeat (first | (with_reducible first | exact HB.out | apply below_alloc | apply pw_below_drewN | apply below_drew1 | refine below_set ?_ GE212.out | refine below_set ?_ GE228.out | refine below_set ?_ GE232.out | refine below_set ?_ GE244.out | refine below_set ?_ GE271.out) | exact HB.out)) hb); clear HO_229000; clear HO_229002; clear HO_229003; clear HO_233000; clear HO_245000; clear HO_245002; clear HO_245003; clear HO_272000; clear HO_272002; clear HO_272003; clear BK212; clear BK228; clear BK232; clear BK244; clear BK271; clear HB; have HO_229000 := n0_; have HO_229002 := n1_; have HO_229003 := n2_; have HO_233000 := n3_; have HO_245000 := n4_; have HO_245002 := n5_; have HO_245003 := n6_; have HO_272000 := n7_; have HO_272002 := n8_; have HO_272003 := n9_; have BK212 := n10_; have BK228 := n11_; have BK232 := n12_; have BK244 := n13_; have BK271 := n14_; have HB := n15_; clear n0_ n1_ n2_ n3_ n4_ n5_ n6_ n7_ n8_ n9_ n10_ n11_ n12_ n13_ n14_ n15_; (try clear hb); (try clear hb2); (try clear hk); (try clear hi)))
                go_ret
                exact ⟨by first | rfl | (simp [errW_none, errW_some] <;> rfl) | (simp [*, errW_none, errW_some] <;> rfl), by repeat (first | (with_reducible first | exact HB.out | apply below_alloc | apply pw_below_drewN | apply below_drew1 | refine below_set ?_ GE212.out | refine below_set ?_ GE228.out | refine below_set ?_ GE232.out | refine below_set ?_ GE244.out | refine below_set ?_ GE271.out) | exact HB.out)⟩
               ·rw [if_neg c161] at H
                have c161b0 : (t273 == t253) = false := beq_eq_false_iff_ne.mpr c161
                have c161b1 : (t273 != t253) = true := bne_iff_ne.mpr c161
                obtain rfl := Option.some.inj H
                have hnb168 := NB244_212.out
                have hnc168 := NB212_244.out
                have hnb169 := NB244_228.out
                have hnc169 := NB228_244.out
                have hnb170 := NB244_232.out
                have hnc170 := NB232_244.out
                have hnb171 := NB244_271.out
                have hnc171 := NB271_244.out
                have hcz172_0 : wc.cell? ⟨gb244, 0, none⟩ = some (.slice Ao34 t254.length co34) := (blk_cell BK244.out 0).trans rfl
                have hcz172_1 : wc.cell? ⟨gb244, 1, none⟩ = some (.int .i64 t236) := (blk_cell BK244.out 1).trans rfl
                have hcz172_2 : wc.cell? ⟨gb244, 2, none⟩ = some (.slice Ao39 t255.length co39) := (blk_cell BK244.out 2).trans rfl
                have hcz172_3 : wc.cell? ⟨gb244, 3, none⟩ = some (.slice Ao40 t240.length co40) := (blk_cell BK244.out 3).trans rfl
                have hfz172_0 := blk_frozen BK244.out 0
                have hfz172_1 := blk_frozen BK244.out 1
                have hfz172_2 := blk_frozen BK244.out 2
                have hfz172_3 := blk_frozen BK244.out 3
                go_wp2_with (first | ((with_reducible refine gate_callee (f := 15) rfl ?_); refine goesL_ (some 90) rfl rfl Try.func15 (by kernel_rfl) rfl #[.agg #[.slice Ao34 t254.length co34, .int .i64 t236, .slice Ao39 t255.length co39, .slice Ao40 t240.length co40], .int .i64 1] rfl (by (try simp only [List.map_toArray, List.map_cons, List.map_nil]); first | done | rfl | (simp only [List.length_drop, List.length_take]; rfl)) ?_; (with_reducible refine (laws_heldWatcher.calls kj106 _ _ t254 t236 _ _ t255 _ _ t240 1 t273 _ ?side1 ?side2 ?side3 ?side4 ?side5 ?side6 A153.out).mono ?_); (case side1 => repeat (first | exact (Kd.R_reads' HO_245000.out).2.2 | (with_reducible refine Kd.C_alloc ?_ _) | (with_reducible refine Kd.C_drewN ?_ _) | (with_reducible refine Kd.C_drew ?_))); (case side2 => exact (Kd.R_reads' HO_245000.out).2.1); (case side3 => repeat (first | exact (Kd.R_reads' HO_245002.out).2.2 | (with_reducible refine Kd.C_alloc ?_ _) | (with_reducible refine Kd.C_drewN ?_ _) | (with_reducible refine Kd.C_drew ?_))); (case side4 => exact (Kd.R_reads' HO_245002.out).2.1); (case side5 => repeat (first | exact (Kd.S_reads' HO_245003.out).2.2 | (with_reducible refine Kd.C_alloc ?_ _) | (with_reducible refine Kd.C_drewN ?_ _) | (with_reducible refine Kd.C_drew ?_))); (case side6 => exact (Kd.S_reads' HO_245003.out).2.1); rintro e w173 ⟨rfl, hb⟩; refine ⟨_, rfl, ?_⟩; have n0_ := Aside0.mk (Kd.R_below (by (with_reducible repeat (first | apply Kd.R_alloc | apply Kd.R_drewN | apply Kd.R_drew)); exact HO_229000.out) hb); have n1_ := Aside0.mk (Kd.R_below (by (with_reducible repeat (first | apply Kd.R_alloc | apply Kd.R_drewN | apply Kd.R_drew)); exact HO_229002.out) hb); have n2_ := Aside0.mk (Kd.S_below (by (with_reducible repeat (first | apply Kd.S_alloc | apply Kd.S_drewN | apply Kd.S_drew)); exact HO_229003.out) hb); have n3_ := Aside0.mk (Kd.R_below (by (with_reducible repeat (first | apply Kd.R_alloc | apply Kd.R_drewN | apply Kd.R_drew)); exact HO_233000.out) hb); have n4_ := Aside0.mk (Kd.R_below (by (with_reducible repeat (first | apply Kd.R_alloc | apply Kd.R_drewN | apply Kd.R_drew)); exact HO_245000.out) hb); have n5_ := Aside0.mk (Kd.R_below (by (with_reducible repeat (first | apply Kd.R_alloc | apply Kd.R_drewN | apply Kd.R_drew)); exact HO_245002.out) hb); have n6_ := Aside0.mk (Kd.S_below (by (with_reducible repeat (first | apply Kd.S_alloc | apply Kd.S_drewN | apply Kd.S_drew)); exact HO_245003.out) hb); have n7_ := Aside0.mk (Kd.R_below (by (with_reducible repeat (first | apply Kd.R_alloc | apply Kd.R_drewN | apply Kd.R_drew)); exact HO_272000.out) hb); have n8_ := Aside0.mk (Kd.R_below (by (with_reducible repeat (first | apply Kd.R_alloc | apply Kd.R_drewN | apply Kd.R_drew)); exact HO_272002.out) hb); have n9_ := Aside0.mk (Kd.S_below (by (with_reducible repeat (first | apply Kd.S_alloc | apply Kd.S_drewN | apply Kd.S_drew)); exact HO_272003.out) hb); have n10_ := Aside0.mk (blk_below (g := gb212) (o := .cells #[.slice A0_0 l0_0.length c0_0] 24 (0, 0)) (by (with_reducible repeat (first | refine blk_drewN ?_ _ | refine blk_drew ?_ | refine blk_alloc ?_ _)); exact BK212.out) hb); have n11_ := Aside0.mk (blk_below (g := gb228) (o := .cells #[.slice Ao20 t217.length co20, .int .i64 t220, .slice Ao23 t221.length co23, .slice Ao24 t224.length co24] 37 (0, 0)) (by (with_reducible repeat (first | refine blk_drewN ?_ _ | refine blk_drew ?_ | refine blk_alloc ?_ _)); exact BK228.out) hb); have n12_ := Aside0.mk (blk_below (g := gb232) (o := .cells #[.slice Ao28 t251.length co28] 30 (0, 0)) (by (with_reducible repeat (first | refine blk_drewN ?_ _ | refine blk_drew ?_ | refine blk_alloc ?_ _)); exact BK232.out) hb); have n13_ := Aside0.mk (blk_below (g := gb244) (o := .cells #[.slice Ao34 t254.length co34, .int .i64 t236, .slice Ao39 t255.length co39, .slice Ao40 t240.length co40] 37 (0, 0)) (by (with_reducible repeat (first | refine blk_drewN ?_ _ | refine blk_drew ?_ | refine blk_alloc ?_ _)); exact BK244.out) hb); have n14_ := Aside0.mk (blk_below (g := gb271) (o := .cells #[.slice Ao122 t260.length co122, .int .i64 t263, .slice Ao128 t264.length co128, .slice Ao129 t267.length co129] 37 (0, 0)) (by (with_reducible repeat (first | refine blk_drewN ?_ _ | refine blk_drew ?_ | refine blk_alloc ?_ _)); exact BK271.out) hb); have n15_ := Aside0.mk (below_step (by repeat (first | (with_reducible first | exact HB.out | apply below_alloc | apply pw_below_drewN | apply below_drew1 | refine below_set ?_ GE212.out | refine below_set ?_ GE228.out | refine below_set ?_ GE232.out | refine below_set ?_ GE244.out | refine below_set ?_ GE271.out) | exact HB.out)) hb); clear HO_229000; clear HO_229002; clear HO_229003; clear HO_233000; clear HO_245000; clear HO_245002; clear HO_245003; clear HO_272000; clear HO_272002; clear HO_272003; clear BK212; clear BK228; clear BK232; clear BK244; clear BK271; clear HB; have HO_229000 := n0_; have HO_229002 := n1_; have HO_229003 := n2_; have HO_233000 := n3_; have HO_245000 := n4_; have HO_245002 := n5_; have HO_245003 := n6_; have HO_272000 := n7_; have HO_272002 := n8_; have HO_272003 := n9_; have BK212 := n10_; have BK228 := n11_; have BK232 := n12_; have BK244 := n13_; have BK271 := n14_; have HB := n15_; clear n0_ n1_ n2_ n3_ n4_ n5_ n6_ n7_ n8_ n9_ n10_ n11_ n12_ n13_ n14_ n15_; (try clear hb); (try clear hb2); (try clear hk); (try clear hi)))
                go_ret
                exact ⟨by first | rfl | (simp [errW_none, errW_some] <;> rfl) | (simp [*, errW_none, errW_some] <;> rfl), by repeat (first | (with_reducible first | exact HB.out | apply below_alloc | apply pw_below_drewN | apply below_drew1 | refine below_set ?_ GE212.out | refine below_set ?_ GE228.out | refine below_set ?_ GE232.out | refine below_set ?_ GE244.out | refine below_set ?_ GE271.out) | exact HB.out)⟩
          ·rw [if_neg c104] at H
           have c104b0 : (t256 == t253) = false := beq_eq_false_iff_ne.mpr c104
           have c104b1 : (t256 != t253) = true := bne_iff_ne.mpr c104
           obtain rfl := Option.some.inj H
           have hnb174 := NB244_212.out
           have hnc174 := NB212_244.out
           have hnb175 := NB244_228.out
           have hnc175 := NB228_244.out
           have hnb176 := NB244_232.out
           have hnc176 := NB232_244.out
           have hcz177_0 : wc.cell? ⟨gb244, 0, none⟩ = some (.slice Ao34 t233.length co34) := (blk_cell BK244.out 0).trans rfl
           have hcz177_1 : wc.cell? ⟨gb244, 1, none⟩ = some (.int .i64 t236) := (blk_cell BK244.out 1).trans rfl
           have hcz177_2 : wc.cell? ⟨gb244, 2, none⟩ = some (.slice Ao39 t237.length co39) := (blk_cell BK244.out 2).trans rfl
           have hcz177_3 : wc.cell? ⟨gb244, 3, none⟩ = some (.slice Ao40 t240.length co40) := (blk_cell BK244.out 3).trans rfl
           have hfz177_0 := blk_frozen BK244.out 0
           have hfz177_1 := blk_frozen BK244.out 1
           have hfz177_2 := blk_frozen BK244.out 2
           have hfz177_3 := blk_frozen BK244.out 3
           go_wp2_with (first | ((with_reducible refine gate_callee (f := 14) rfl ?_); refine goesL_ (some 64) rfl rfl Try.func14 (by kernel_rfl) rfl #[.agg #[.slice Ao34 t233.length co34, .int .i64 t236, .slice Ao39 t237.length co39, .slice Ao40 t240.length co40], .int .i64 1] rfl (by (try simp only [List.map_toArray, List.map_cons, List.map_nil]); first | done | rfl | (simp only [List.length_drop, List.length_take]; rfl)) ?_; (with_reducible refine (laws_markWatcher.calls kj63 (fun k_ => some k_ = (.slice Ao34 t233.length co34 : Value).ownBlock) (.slice Ao34 t233.length co34) t233 t236 (fun k_ => some k_ = (.slice Ao39 t237.length co39 : Value).ownBlock) (.slice Ao39 t237.length co39) t237 _ _ t240 1 t253 t254 t255 w _ ?side1 ?side2 ?side3 ?side4 ?side5 A94.out).mono ?_); (case side1 => repeat (first | (with_reducible first | exact HB.out | apply below_alloc | apply pw_below_drewN | apply below_drew1 | refine below_set ?_ GE212.out | refine below_set ?_ GE228.out | refine below_set ?_ GE232.out | refine below_set ?_ GE244.out) | exact HB.out)); (case side2 => exact Kd.R_tight rfl HO_245000.out); (case side3 => exact Kd.R_tight rfl HO_245002.out); (case side4 => exact Kd.C_kept_own ((Kd.S_R (Kd.S_apart' HO_245003.out (Kd.R_typed HO_245000.out) (by decide)))) (fun k_ hk_ hs_ => Or.elim hs_ (fun e_ => (hk_.2) e_) (fun e_ => (hk_.1.2.2) e_))); (case side5 => exact (Kd.S_reads' HO_245003.out).2.1); rintro e w178 ⟨rfl, hy0, hy1, hb, hkp⟩; refine ⟨_, rfl, ?_⟩; have n0_ := Aside0.mk (Kd.R_mono (ok' := fun k_ => some k_ ≠ (.slice Ao28 t251.length co28 : Value).ownBlock ∧ some k_ ≠ (.slice Ao34 t233.length co34 : Value).ownBlock) (Kd.R_keptB ((Kd.R_apart' HO_229000.out (Kd.R_typed HO_245002.out) (by decide))) hkp (fun k_ hk_ hs_ => Or.elim hs_ (fun e_ => (hk_.1.2) e_) (fun e_ => (hk_.2) e_))) (fun k_ hk_ => ⟨hk_.1.1.1, hk_.1.1.2⟩)); have n1_ := Aside0.mk (Kd.R_mono (ok' := fun k_ => some k_ ≠ (.slice Ao39 t237.length co39 : Value).ownBlock) (Kd.R_keptB ((Kd.R_apart' HO_229002.out (Kd.R_typed HO_245000.out) (by decide))) hkp (fun k_ hk_ hs_ => Or.elim hs_ (fun e_ => (hk_.2) e_) (fun e_ => (hk_.1) e_))) (fun k_ hk_ => hk_.1.1)); have n2_ := Aside0.mk (Kd.S_mono (ok' := fun k_ => some k_ ≠ (.slice Ao23 t221.length co23 : Value).ownBlock ∧ some k_ ≠ (.slice Ao39 t237.length co39 : Value).ownBlock ∧ some k_ ≠ (.slice Ao40 t240.length co40 : Value).ownBlock) (Kd.S_keptB ((Kd.S_apart' HO_229003.out (Kd.R_typed HO_245000.out) (by decide))) hkp (fun k_ hk_ hs_ => Or.elim hs_ (fun e_ => (hk_.2) e_) (fun e_ => (hk_.1.2.1) e_))) (fun k_ hk_ => ⟨hk_.1.1.1, hk_.1.1.2.1, hk_.1.1.2.2⟩)); have n3_ := Aside0.mk (Kd.R_mono (ok' := fun k_ => some k_ ≠ (.slice Ao20 t217.length co20 : Value).ownBlock ∧ some k_ ≠ (.slice Ao34 t233.length co34 : Value).ownBlock) (Kd.R_keptB ((Kd.R_apart' HO_233000.out (Kd.R_typed HO_245002.out) (by decide))) hkp (fun k_ hk_ hs_ => Or.elim hs_ (fun e_ => (hk_.1.2) e_) (fun e_ => (hk_.2) e_))) (fun k_ hk_ => ⟨hk_.1.1.1, hk_.1.1.2⟩)); have n4_ := Aside0.mk (Kd.R_reok rfl hy0 (fun k_ e_ => HO_245000.out.1 k_ e_)); have n5_ := Aside0.mk (Kd.R_reok rfl hy1 (fun k_ e_ => HO_245002.out.1 k_ e_)); have n6_ := Aside0.mk (Kd.S_mono (ok' := fun k_ => some k_ ≠ (.slice Ao23 t221.length co23 : Value).ownBlock ∧ some k_ ≠ (.slice Ao24 t224.length co24 : Value).ownBlock ∧ some k_ ≠ (.slice Ao39 t237.length co39 : Value).ownBlock) (Kd.S_keptB ((Kd.S_apart' HO_245003.out (Kd.R_typed HO_245000.out) (by decide))) hkp (fun k_ hk_ hs_ => Or.elim hs_ (fun e_ => (hk_.2) e_) (fun e_ => (hk_.1.2.2) e_))) (fun k_ hk_ => ⟨hk_.1.1.1, hk_.1.1.2.1, hk_.1.1.2.2⟩)); have n7_ := Aside0.mk (blk_kept (by (with_reducible repeat (first | refine blk_drewN ?_ _ | refine blk_drew ?_ | refine blk_alloc ?_ _)); exact BK212.out) hkp (fun hs_ => Or.elim hs_ (fun e_ => (fun e_ => (Kd.R_ne HO_245000.out BK212.out (by decide)) e_) e_) (fun e_ => (fun e_ => (Kd.R_ne HO_245002.out BK212.out (by decide)) e_) e_))); have n8_ := Aside0.mk (blk_kept (by (with_reducible repeat (first | refine blk_drewN ?_ _ | refine blk_drew ?_ | refine blk_alloc ?_ _)); exact BK228.out) hkp (fun hs_ => Or.elim hs_ (fun e_ => (fun e_ => (Kd.R_ne HO_245000.out BK228.out (by decide)) e_) e_) (fun e_ => (fun e_ => (Kd.R_ne HO_245002.out BK228.out (by decide)) e_) e_))); have n9_ := Aside0.mk (blk_kept (by (with_reducible repeat (first | refine blk_drewN ?_ _ | refine blk_drew ?_ | refine blk_alloc ?_ _)); exact BK232.out) hkp (fun hs_ => Or.elim hs_ (fun e_ => (fun e_ => (Kd.R_ne HO_245000.out BK232.out (by decide)) e_) e_) (fun e_ => (fun e_ => (Kd.R_ne HO_245002.out BK232.out (by decide)) e_) e_))); have n10_ := Aside0.mk (blk_kept (by (with_reducible repeat (first | refine blk_drewN ?_ _ | refine blk_drew ?_ | refine blk_alloc ?_ _)); exact BK244.out) hkp (fun hs_ => Or.elim hs_ (fun e_ => (fun e_ => (Kd.R_ne HO_245000.out BK244.out (by decide)) e_) e_) (fun e_ => (fun e_ => (Kd.R_ne HO_245002.out BK244.out (by decide)) e_) e_))); have n11_ := Aside0.mk (hb); clear HO_229000; clear HO_229002; clear HO_229003; clear HO_233000; clear HO_245000; clear HO_245002; clear HO_245003; clear BK212; clear BK228; clear BK232; clear BK244; clear HB; have HO_229000 := n0_; have HO_229002 := n1_; have HO_229003 := n2_; have HO_233000 := n3_; have HO_245000 := n4_; have HO_245002 := n5_; have HO_245003 := n6_; have BK212 := n7_; have BK228 := n8_; have BK232 := n9_; have BK244 := n10_; have HB := n11_; clear n0_ n1_ n2_ n3_ n4_ n5_ n6_ n7_ n8_ n9_ n10_ n11_; (try clear hb); (try clear hkp); (try clear hy0); (try clear hy1); have hcz179_0 : w178.cell? ⟨gb244, 0, none⟩ = some (.slice Ao34 t233.length co34) := (blk_cell BK244.out 0).trans rfl; have hcz179_1 : w178.cell? ⟨gb244, 1, none⟩ = some (.int .i64 t236) := (blk_cell BK244.out 1).trans rfl; have hcz179_2 : w178.cell? ⟨gb244, 2, none⟩ = some (.slice Ao39 t237.length co39) := (blk_cell BK244.out 2).trans rfl; have hcz179_3 : w178.cell? ⟨gb244, 3, none⟩ = some (.slice Ao40 t240.length co40) := (blk_cell BK244.out 3).trans rfl; have hfz179_0 := blk_frozen BK244.out 0; have hfz179_1 := blk_frozen BK244.out 1; have hfz179_2 := blk_frozen BK244.out 2; have hfz179_3 := blk_frozen BK244.out 3) | ((with_reducible refine gate_callee (f := 15) rfl ?_); refine goesL_ (some 67) rfl rfl Try.func15 (by kernel_rfl) rfl #[.agg #[.slice Ao34 t254.length co34, .int .i64 t236, .slice Ao39 t255.length co39, .slice Ao40 t240.length co40], .int .i64 1] rfl (by (try simp only [List.map_toArray, List.map_cons, List.map_nil]); first | done | (rw [show t254.length = t233.length from (Kd.R_reads' HO_245000.out).1.symm, show t255.length = t237.length from (Kd.R_reads' HO_245002.out).1.symm] <;> rfl) | rfl | (simp only [List.length_drop, List.length_take]; rfl)) ?_; (with_reducible refine (laws_heldWatcher.calls kj63 _ _ t254 t236 _ _ t255 _ _ t240 1 t256 _ ?side1 ?side2 ?side3 ?side4 ?side5 ?side6 A95.out).mono ?_); (case side1 => repeat (first | exact (Kd.R_reads' HO_245000.out).2.2 | (with_reducible refine Kd.C_alloc ?_ _) | (with_reducible refine Kd.C_drewN ?_ _) | (with_reducible refine Kd.C_drew ?_))); (case side2 => rw [show t254.length = t233.length from (Kd.R_reads' HO_245000.out).1.symm]; exact (Kd.R_reads' HO_245000.out).2.1); (case side3 => repeat (first | exact (Kd.R_reads' HO_245002.out).2.2 | (with_reducible refine Kd.C_alloc ?_ _) | (with_reducible refine Kd.C_drewN ?_ _) | (with_reducible refine Kd.C_drew ?_))); (case side4 => rw [show t255.length = t237.length from (Kd.R_reads' HO_245002.out).1.symm]; exact (Kd.R_reads' HO_245002.out).2.1); (case side5 => repeat (first | exact (Kd.S_reads' HO_245003.out).2.2 | (with_reducible refine Kd.C_alloc ?_ _) | (with_reducible refine Kd.C_drewN ?_ _) | (with_reducible refine Kd.C_drew ?_))); (case side6 => exact (Kd.S_reads' HO_245003.out).2.1); rintro e w180 ⟨rfl, hb⟩; refine ⟨_, rfl, ?_⟩; have n0_ := Aside0.mk (Kd.R_below (by (with_reducible repeat (first | apply Kd.R_alloc | apply Kd.R_drewN | apply Kd.R_drew)); exact HO_229000.out) hb); have n1_ := Aside0.mk (Kd.R_below (by (with_reducible repeat (first | apply Kd.R_alloc | apply Kd.R_drewN | apply Kd.R_drew)); exact HO_229002.out) hb); have n2_ := Aside0.mk (Kd.S_below (by (with_reducible repeat (first | apply Kd.S_alloc | apply Kd.S_drewN | apply Kd.S_drew)); exact HO_229003.out) hb); have n3_ := Aside0.mk (Kd.R_below (by (with_reducible repeat (first | apply Kd.R_alloc | apply Kd.R_drewN | apply Kd.R_drew)); exact HO_233000.out) hb); have n4_ := Aside0.mk (Kd.R_below (by (with_reducible repeat (first | apply Kd.R_alloc | apply Kd.R_drewN | apply Kd.R_drew)); exact HO_245000.out) hb); have n5_ := Aside0.mk (Kd.R_below (by (with_reducible repeat (first | apply Kd.R_alloc | apply Kd.R_drewN | apply Kd.R_drew)); exact HO_245002.out) hb); have n6_ := Aside0.mk (Kd.S_below (by (with_reducible repeat (first | apply Kd.S_alloc | apply Kd.S_drewN | apply Kd.S_drew)); exact HO_245003.out) hb); have n7_ := Aside0.mk (blk_below (g := gb212) (o := .cells #[.slice A0_0 l0_0.length c0_0] 24 (0, 0)) (by (with_reducible repeat (first | refine blk_drewN ?_ _ | refine blk_drew ?_ | refine blk_alloc ?_ _)); exact BK212.out) hb); have n8_ := Aside0.mk (blk_below (g := gb228) (o := .cells #[.slice Ao20 t217.length co20, .int .i64 t220, .slice Ao23 t221.length co23, .slice Ao24 t224.length co24] 37 (0, 0)) (by (with_reducible repeat (first | refine blk_drewN ?_ _ | refine blk_drew ?_ | refine blk_alloc ?_ _)); exact BK228.out) hb); have n9_ := Aside0.mk (blk_below (g := gb232) (o := .cells #[.slice Ao28 t251.length co28] 30 (0, 0)) (by (with_reducible repeat (first | refine blk_drewN ?_ _ | refine blk_drew ?_ | refine blk_alloc ?_ _)); exact BK232.out) hb); have n10_ := Aside0.mk (blk_below (g := gb244) (o := .cells #[.slice Ao34 t233.length co34, .int .i64 t236, .slice Ao39 t237.length co39, .slice Ao40 t240.length co40] 37 (0, 0)) (by (with_reducible repeat (first | refine blk_drewN ?_ _ | refine blk_drew ?_ | refine blk_alloc ?_ _)); exact BK244.out) hb); have n11_ := Aside0.mk (below_step (by repeat (first | (with_reducible first | exact HB.out | apply below_alloc | apply pw_below_drewN | apply below_drew1 | refine below_set ?_ GE212.out | refine below_set ?_ GE228.out | refine below_set ?_ GE232.out | refine below_set ?_ GE244.out) | exact HB.out)) hb); clear HO_229000; clear HO_229002; clear HO_229003; clear HO_233000; clear HO_245000; clear HO_245002; clear HO_245003; clear BK212; clear BK228; clear BK232; clear BK244; clear HB; have HO_229000 := n0_; have HO_229002 := n1_; have HO_229003 := n2_; have HO_233000 := n3_; have HO_245000 := n4_; have HO_245002 := n5_; have HO_245003 := n6_; have BK212 := n7_; have BK228 := n8_; have BK232 := n9_; have BK244 := n10_; have HB := n11_; clear n0_ n1_ n2_ n3_ n4_ n5_ n6_ n7_ n8_ n9_ n10_ n11_; (try clear hb); (try clear hb2); (try clear hk); (try clear hi)))
           go_ret
           exact ⟨by first | rfl | (simp [errW_none, errW_some] <;> rfl) | (simp [*, errW_none, errW_some] <;> rfl), by repeat (first | (with_reducible first | exact HB.out | apply below_alloc | apply pw_below_drewN | apply below_drew1 | refine below_set ?_ GE212.out | refine below_set ?_ GE228.out | refine below_set ?_ GE232.out | refine below_set ?_ GE244.out) | exact HB.out)⟩
     ·replace c62 := Bool.eq_false_iff.mpr c62
      subst c62
      have H1 : (some false) = some r := by rw [if_neg (show ¬ (false = true) by decide)] at H; exact H
      clear H
      have H := H1
      clear H1
      obtain rfl := Option.some.inj H
      try go_wp2
      have n0_ := Aside0.mk (Kd.R_drew HO_229000.out)
      have n1_ := Aside0.mk (Kd.R_drew HO_229002.out)
      have n2_ := Aside0.mk (Kd.S_drew HO_229003.out)
      have n3_ := Aside0.mk (Kd.R_drew HO_233000.out)
      have n4_ := Aside0.mk (Kd.R_drew HO_245000.out)
      have n5_ := Aside0.mk (Kd.R_drew HO_245002.out)
      have n6_ := Aside0.mk (Kd.S_drew HO_245003.out)
      have n7_ := Aside0.mk (blk_drew BK212.out)
      have n8_ := Aside0.mk (blk_drew BK228.out)
      have n9_ := Aside0.mk (blk_drew BK232.out)
      have n10_ := Aside0.mk (blk_drew BK244.out)
      have n11_ := Aside0.mk (below_drew1 HB.out)
      clear HO_229000
      clear HO_229002
      clear HO_229003
      clear HO_233000
      clear HO_245000
      clear HO_245002
      clear HO_245003
      clear BK212
      clear BK228
      clear BK232
      clear BK244
      clear HB
      have HO_229000 := n0_
      have HO_229002 := n1_
      have HO_229003 := n2_
      have HO_233000 := n3_
      have HO_245000 := n4_
      have HO_245002 := n5_
      have HO_245003 := n6_
      have BK212 := n7_
      have BK228 := n8_
      have BK232 := n9_
      have BK244 := n10_
      have HB := n11_
      clear n0_ n1_ n2_ n3_ n4_ n5_ n6_ n7_ n8_ n9_ n10_ n11_
      refine start_ (n := 5) (S := fun w' => w'.cell? ⟨gb232, 0, none⟩ = some (.slice Ao28 t229.length co28) ∧ w'.cell? ⟨gb212, 0, none⟩ = some (.slice A0_0 l0_0.length c0_0)) (ds := []) #[false, false, false, false, false] (by kernel_rfl) rfl rfl ⟨(blk_cell BK232.out 0).trans rfl, (blk_cell BK212.out 0).trans rfl⟩ (fun hHeld => ?_)
      generalize wc.drew = w181 at HO_229000 HO_229002 HO_229003 HO_233000 HO_245000 HO_245002 HO_245003 BK212 BK228 BK232 BK244 HB hHeld ⊢
      refine take_ (i := 0) (N := some 41) (v := ?_) (a' := ?_) #[true, false, false, false, false] rfl rfl (by kernel_rfl) (fun _ _ _ h => h) (Or.inl ⟨by rfl, ?_⟩) hHeld ?_ ?_
      rotate_left
      ·rintro w' ⟨s0, s1⟩
       go_simp
       with_reducible rfl
      rotate_left
      ·simp only [Act.put, List.setIfInBounds_toArray, List.set_cons_zero, List.set_cons_succ, i64_w, i32_w]
       rfl
      refine take_ (i := 1) (N := some 42) (v := ?_) (a' := ?_) #[true, true, false, false, false] rfl rfl (by kernel_rfl) (fun _ _ _ h => h) (Or.inl ⟨by rfl, ?_⟩) hHeld ?_ ?_
      rotate_left
      ·rintro w' ⟨s0, s1⟩
       go_simp
       with_reducible rfl
      rotate_left
      ·simp only [Act.put, List.setIfInBounds_toArray, List.set_cons_zero, List.set_cons_succ, i64_w, i32_w]
       rfl
      refine one_ (i := 2) (N := some 43) #[true, true, true, false, false] rfl rfl (by kernel_rfl) (by decide) (fun K hK => ?_)
      refine goes_ Try.func7 (by kernel_rfl) rfl #[.agg #[.slice A0_0 l0_0.length c0_0]] (by rfl) rfl rfl (by (try simp only [List.map_toArray, List.map_cons, List.map_nil]); first | done | rfl | (simp only [List.length_drop, List.length_take]; rfl)) ?_
      with_reducible refine (laws_toQuery.calls kj10 _ _ l0_0 t246 _ ?side1 ?side2 A60.out).mono ?_
      (case side1 => repeat (first | exact (Kd.C_below HR0_0.out HB.out) | (with_reducible refine Kd.C_alloc ?_ _) | (with_reducible refine Kd.C_drewN ?_ _) | (with_reducible refine Kd.C_drew ?_)))
      (case side2 => exact HC0_0.out)
      rintro e w182 ⟨v247, rfl, ho0, hb⟩
      refine ⟨_, rfl, ?_⟩
      have n0_ := Aside0.mk (Kd.R_elder' (by (with_reducible repeat (first | apply Kd.R_alloc | apply Kd.R_drewN | apply Kd.R_drew)); exact HO_229000.out) (Kd.R_base ho0) hb)
      have n1_ := Aside0.mk (Kd.R_below (by (with_reducible repeat (first | apply Kd.R_alloc | apply Kd.R_drewN | apply Kd.R_drew)); exact HO_229002.out) hb)
      have n2_ := Aside0.mk (Kd.S_below (by (with_reducible repeat (first | apply Kd.S_alloc | apply Kd.S_drewN | apply Kd.S_drew)); exact HO_229003.out) hb)
      have n3_ := Aside0.mk (Kd.R_elder' (by (with_reducible repeat (first | apply Kd.R_alloc | apply Kd.R_drewN | apply Kd.R_drew)); exact HO_233000.out) (Kd.R_base ho0) hb)
      have n4_ := Aside0.mk (Kd.R_elder' (by (with_reducible repeat (first | apply Kd.R_alloc | apply Kd.R_drewN | apply Kd.R_drew)); exact HO_245000.out) (Kd.R_base ho0) hb)
      have n5_ := Aside0.mk (Kd.R_below (by (with_reducible repeat (first | apply Kd.R_alloc | apply Kd.R_drewN | apply Kd.R_drew)); exact HO_245002.out) hb)
      have n6_ := Aside0.mk (Kd.S_below (by (with_reducible repeat (first | apply Kd.S_alloc | apply Kd.S_drewN | apply Kd.S_drew)); exact HO_245003.out) hb)
      have n7_ := Aside0.mk (Kd.R_lower (Kd.R_new' (Kd.R_new' (Kd.R_new' ho0 (Kd.R_lt (by (with_reducible repeat (first | apply Kd.R_alloc | apply Kd.R_drewN | apply Kd.R_drew)); exact HO_229000.out))) (Kd.R_lt (by (with_reducible repeat (first | apply Kd.R_alloc | apply Kd.R_drewN | apply Kd.R_drew)); exact HO_233000.out))) (Kd.R_lt (by (with_reducible repeat (first | apply Kd.R_alloc | apply Kd.R_drewN | apply Kd.R_drew)); exact HO_245000.out))) (below_size (by repeat (first | (with_reducible first | exact HB.out | apply below_alloc | apply pw_below_drewN | apply below_drew1 | refine below_set ?_ GE212.out | refine below_set ?_ GE228.out | refine below_set ?_ GE232.out | refine below_set ?_ GE244.out) | exact HB.out))))
      have n8_ := Aside0.mk (blk_below (g := gb212) (o := .cells #[.slice A0_0 l0_0.length c0_0] 24 (0, 0)) (by (with_reducible repeat (first | refine blk_drewN ?_ _ | refine blk_drew ?_ | refine blk_alloc ?_ _)); exact BK212.out) hb)
      have n9_ := Aside0.mk (blk_below (g := gb228) (o := .cells #[.slice Ao20 t217.length co20, .int .i64 t220, .slice Ao23 t221.length co23, .slice Ao24 t224.length co24] 37 (0, 0)) (by (with_reducible repeat (first | refine blk_drewN ?_ _ | refine blk_drew ?_ | refine blk_alloc ?_ _)); exact BK228.out) hb)
      have n10_ := Aside0.mk (blk_below (g := gb232) (o := .cells #[.slice Ao28 t229.length co28] 30 (0, 0)) (by (with_reducible repeat (first | refine blk_drewN ?_ _ | refine blk_drew ?_ | refine blk_alloc ?_ _)); exact BK232.out) hb)
      have n11_ := Aside0.mk (blk_below (g := gb244) (o := .cells #[.slice Ao34 t233.length co34, .int .i64 t236, .slice Ao39 t237.length co39, .slice Ao40 t240.length co40] 37 (0, 0)) (by (with_reducible repeat (first | refine blk_drewN ?_ _ | refine blk_drew ?_ | refine blk_alloc ?_ _)); exact BK244.out) hb)
      have n12_ := Aside0.mk (below_step (by repeat (first | (with_reducible first | exact HB.out | apply below_alloc | apply pw_below_drewN | apply below_drew1 | refine below_set ?_ GE212.out | refine below_set ?_ GE228.out | refine below_set ?_ GE232.out | refine below_set ?_ GE244.out) | exact HB.out)) hb)
      clear HO_229000
      clear HO_229002
      clear HO_229003
      clear HO_233000
      clear HO_245000
      clear HO_245002
      clear HO_245003
      clear BK212
      clear BK228
      clear BK232
      clear BK244
      clear HB
      have HO_229000 := n0_
      have HO_229002 := n1_
      have HO_229003 := n2_
      have HO_233000 := n3_
      have HO_245000 := n4_
      have HO_245002 := n5_
      have HO_245003 := n6_
      have HO248 := n7_
      have BK212 := n8_
      have BK228 := n9_
      have BK232 := n10_
      have BK244 := n11_
      have HB := n12_
      clear n0_ n1_ n2_ n3_ n4_ n5_ n6_ n7_ n8_ n9_ n10_ n11_ n12_
      (try clear hb)
      (try clear hb2)
      (try clear hk)
      (try clear hi)
      (try clear ho0)
      obtain ⟨Ao183, co183, eo183⟩ := Kd.R_slice HO248.out
      (first | subst eo183 | (injection eo183 with f1_ f2_ f3_; have f4_ := f1_.symm; have f5_ := f3_.symm; clear f1_ f2_ f3_; subst f4_; subst f5_))
      refine hK.out _ _ ⟨(blk_cell BK232.out 0).trans rfl, (blk_cell BK212.out 0).trans rfl⟩ (fun hHeld => ?_)
      clear hK K
      refine norm_ (a' := ?_) ?_ ?_
      rotate_left
      ·show Act.put _ (some 43) _ = _
       simp only [Act.put, List.setIfInBounds_toArray, List.set_cons_zero, List.set_cons_succ, i64_w, i32_w]
       rfl
      refine one_ (i := 3) (N := some 44) #[true, true, true, true, false] rfl rfl (by kernel_rfl) (by decide) (fun K hK => ?_)
      refine goes_ Try.func9 (by kernel_rfl) rfl #[.agg #[.slice Ao28 t229.length co28], .agg #[.slice Ao183 t246.length co183]] (by rfl) rfl rfl (by (try simp only [List.map_toArray, List.map_cons, List.map_nil]); first | done | rfl | (simp only [List.length_drop, List.length_take]; rfl)) ?_
      with_reducible refine (laws_eqQuery.calls kj10 _ _ t229 _ _ t246 false _ ?side1 ?side2 ?side3 ?side4 A61.out).mono ?_
      (case side1 => repeat (first | exact (Kd.R_reads' HO_233000.out).2.2 | (with_reducible refine Kd.C_alloc ?_ _) | (with_reducible refine Kd.C_drewN ?_ _) | (with_reducible refine Kd.C_drew ?_)))
      (case side2 => exact (Kd.R_reads' HO_233000.out).2.1)
      (case side3 => repeat (first | exact (Kd.R_reads' HO248.out).2.2 | (with_reducible refine Kd.C_alloc ?_ _) | (with_reducible refine Kd.C_drewN ?_ _) | (with_reducible refine Kd.C_drew ?_)))
      (case side4 => exact (Kd.R_reads' HO248.out).2.1)
      rintro e w184 ⟨rfl, hb⟩
      refine ⟨_, rfl, ?_⟩
      have n0_ := Aside0.mk (Kd.R_below (by (with_reducible repeat (first | apply Kd.R_alloc | apply Kd.R_drewN | apply Kd.R_drew)); exact HO_229000.out) hb)
      have n1_ := Aside0.mk (Kd.R_below (by (with_reducible repeat (first | apply Kd.R_alloc | apply Kd.R_drewN | apply Kd.R_drew)); exact HO_229002.out) hb)
      have n2_ := Aside0.mk (Kd.S_below (by (with_reducible repeat (first | apply Kd.S_alloc | apply Kd.S_drewN | apply Kd.S_drew)); exact HO_229003.out) hb)
      have n3_ := Aside0.mk (Kd.R_below (by (with_reducible repeat (first | apply Kd.R_alloc | apply Kd.R_drewN | apply Kd.R_drew)); exact HO_233000.out) hb)
      have n4_ := Aside0.mk (Kd.R_below (by (with_reducible repeat (first | apply Kd.R_alloc | apply Kd.R_drewN | apply Kd.R_drew)); exact HO_245000.out) hb)
      have n5_ := Aside0.mk (Kd.R_below (by (with_reducible repeat (first | apply Kd.R_alloc | apply Kd.R_drewN | apply Kd.R_drew)); exact HO_245002.out) hb)
      have n6_ := Aside0.mk (Kd.S_below (by (with_reducible repeat (first | apply Kd.S_alloc | apply Kd.S_drewN | apply Kd.S_drew)); exact HO_245003.out) hb)
      have n7_ := Aside0.mk (Kd.R_below (by (with_reducible repeat (first | apply Kd.R_alloc | apply Kd.R_drewN | apply Kd.R_drew)); exact HO248.out) hb)
      have n8_ := Aside0.mk (blk_below (g := gb212) (o := .cells #[.slice A0_0 l0_0.length c0_0] 24 (0, 0)) (by (with_reducible repeat (first | refine blk_drewN ?_ _ | refine blk_drew ?_ | refine blk_alloc ?_ _)); exact BK212.out) hb)
      have n9_ := Aside0.mk (blk_below (g := gb228) (o := .cells #[.slice Ao20 t217.length co20, .int .i64 t220, .slice Ao23 t221.length co23, .slice Ao24 t224.length co24] 37 (0, 0)) (by (with_reducible repeat (first | refine blk_drewN ?_ _ | refine blk_drew ?_ | refine blk_alloc ?_ _)); exact BK228.out) hb)
      have n10_ := Aside0.mk (blk_below (g := gb232) (o := .cells #[.slice Ao28 t229.length co28] 30 (0, 0)) (by (with_reducible repeat (first | refine blk_drewN ?_ _ | refine blk_drew ?_ | refine blk_alloc ?_ _)); exact BK232.out) hb)
      have n11_ := Aside0.mk (blk_below (g := gb244) (o := .cells #[.slice Ao34 t233.length co34, .int .i64 t236, .slice Ao39 t237.length co39, .slice Ao40 t240.length co40] 37 (0, 0)) (by (with_reducible repeat (first | refine blk_drewN ?_ _ | refine blk_drew ?_ | refine blk_alloc ?_ _)); exact BK244.out) hb)
      have n12_ := Aside0.mk (below_step (by repeat (first | (with_reducible first | exact HB.out | apply below_alloc | apply pw_below_drewN | apply below_drew1 | refine below_set ?_ GE212.out | refine below_set ?_ GE228.out | refine below_set ?_ GE232.out | refine below_set ?_ GE244.out) | exact HB.out)) hb)
      clear HO_229000
      clear HO_229002
      clear HO_229003
      clear HO_233000
      clear HO_245000
      clear HO_245002
      clear HO_245003
      clear HO248
      clear BK212
      clear BK228
      clear BK232
      clear BK244
      clear HB
      have HO_229000 := n0_
      have HO_229002 := n1_
      have HO_229003 := n2_
      have HO_233000 := n3_
      have HO_245000 := n4_
      have HO_245002 := n5_
      have HO_245003 := n6_
      have HO248 := n7_
      have BK212 := n8_
      have BK228 := n9_
      have BK232 := n10_
      have BK244 := n11_
      have HB := n12_
      clear n0_ n1_ n2_ n3_ n4_ n5_ n6_ n7_ n8_ n9_ n10_ n11_ n12_
      (try clear hb)
      (try clear hb2)
      (try clear hk)
      (try clear hi)
      refine hK.out _ _ ⟨(blk_cell BK232.out 0).trans rfl, (blk_cell BK212.out 0).trans rfl⟩ (fun hHeld => ?_)
      clear hK K
      refine norm_ (a' := ?_) ?_ ?_
      rotate_left
      ·show Act.put _ (some 44) _ = _
       simp only [Act.put, List.setIfInBounds_toArray, List.set_cons_zero, List.set_cons_succ, i64_w, i32_w]
       rfl
      refine pure_ (i := 4) (N := some 45) (v := ?_) (a' := ?_) #[true, true, true, true, true] rfl rfl (by kernel_rfl) (fun _ _ _ h => h) (Or.inl ⟨by rfl, ?_⟩) ?_ ?_
      rotate_left
      ·intro w'
       go_simp
       with_reducible rfl
      rotate_left
      ·simp only [Act.put, List.setIfInBounds_toArray, List.set_cons_zero, List.set_cons_succ, i64_w, i32_w]
       rfl
      refine done_ (by kernel_rfl) ?_
      try go_wp2
      go_ret
      exact ⟨by first | rfl | (simp [errW_none, errW_some] <;> rfl) | (simp [*, errW_none, errW_some] <;> rfl), by repeat (first | (with_reducible first | exact HB.out | apply below_alloc | apply pw_below_drewN | apply below_drew1 | refine below_set ?_ GE212.out | refine below_set ?_ GE228.out | refine below_set ?_ GE232.out | refine below_set ?_ GE244.out) | exact HB.out)⟩
end Go.Proofs.Ythcnfaonafndoaa.S
