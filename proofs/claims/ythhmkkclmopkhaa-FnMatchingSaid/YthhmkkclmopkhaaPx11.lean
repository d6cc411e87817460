/- Machine side of the laws of this seat: for each Go function that they reach, a Lean function and the proof that a call comes to just its answer. Written by a program of this session. -/
import Derived.Test.YthhmkkclmopkhaaPx0
import Derived.Test.YthhmkkclmopkhaaPx32
import Derived.Test.YthhmkkclmopkhaaPx34
import Derived.Test.YthhmkkclmopkhaaPx35
namespace Go.Proofs.Ythhmkkclmopkhaa.P
open Go.RowKit Go.Proofs.YthhmkkclmopkhaaW.PrintWords Go.Proofs.YthhmkkclmopkhaaW.PrintLast Go.Proofs.YthhmkkclmopkhaaW.PrintMore
attribute [local go_sem] max2_int min2_int max_two min_two max_three min_three max_four min_four   -- for this text's walks alone
set_option linter.unusedVariables false
set_option linter.unusedSimpArgs false

/-! ### impl_TurnWord: function 11 -/
def turnSym (c : Int) : Int := if c = 97 ∨ c = 98 then c else bt (⟨#[40, 91, 41, 93, 97, 98]⟩ : ByteArray) ((Lib.indexByte (⟨#[40, 91, 41, 93, 97, 98]⟩ : ByteArray).data.toList c.toNat.toUInt8 + 2) % 4)
def turned (a : ByteArray) : List Int := (bytesOf a).reverse.map turnSym
def impl_TurnWord.f (k : Nat) (a0 : ByteArray) : Option (ByteArray × Int) := (impl_ValidWord.f k a0).bind fun t => if t = true then (if a0.size ≤ 1048576 then some (strOfNums (turned a0), 0) else none) else some (⟨#[]⟩, 1)
theorem impl_TurnWord.mono : ∀ a0 k, LeO (impl_TurnWord.f k a0) (impl_TurnWord.f (k + 1) a0) := fun a0 k => by
  unfold impl_TurnWord.f
  exact LeO.bind (impl_ValidWord.mono a0 k) (fun _ => LeO.refl _)
theorem indexByte_range (c : Int) : -1 ≤ Lib.indexByte (⟨#[40, 91, 41, 93, 97, 98]⟩ : ByteArray).data.toList c.toNat.toUInt8 ∧ Lib.indexByte (⟨#[40, 91, 41, 93, 97, 98]⟩ : ByteArray).data.toList c.toNat.toUInt8 ≤ 5 := by
  generalize c.toNat.toUInt8 = b
  show -1 ≤ Lib.indexByte [40, 91, 41, 93, 97, 98] b ∧ Lib.indexByte [40, 91, 41, 93, 97, 98] b ≤ 5
  revert b
  have h : ∀ b : Fin 256, -1 ≤ Lib.indexByte [40, 91, 41, 93, 97, 98] (UInt8.ofFin b) ∧ Lib.indexByte [40, 91, 41, 93, 97, 98] (UInt8.ofFin b) ≤ 5 := by decide +kernel
  intro b
  exact h b.toFin
/-- The first i of a row are turned already. -/
def mixT (L : List Int) (i : Nat) : List Int := (L.take i).map turnSym ++ L.drop i
theorem mixT_len (L : List Int) (i : Nat) (h : i ≤ L.length) : (mixT L i).length = L.length := by simp [mixT]; omega
theorem mixT_at (L : List Int) (i : Nat) (h : i < L.length) : (mixT L i)[i]? = some (rd L i) := by
  have h1 : ((L.take i).map turnSym).length = i := by simp; omega
  unfold mixT rd
  rw [List.getElem?_append_right (by omega), h1, Nat.sub_self, List.getElem?_drop, Nat.add_zero, Int.toNat_natCast, List.getD_eq_getElem?_getD, List.getElem?_eq_getElem h]
  rfl
theorem mixT_set (L : List Int) (i : Nat) (h : i < L.length) : (mixT L i).set i (turnSym (rd L i)) = mixT L (i + 1) := by
  have h1 : ((L.take i).map turnSym).length = i := by simp; omega
  unfold mixT rd
  rw [List.set_append_right _ _ (by omega), h1, Nat.sub_self, Int.toNat_natCast, List.getD_eq_getElem?_getD, List.getElem?_eq_getElem h]
  rw [List.drop_eq_getElem_cons h, List.set_cons_zero, List.take_succ_eq_append_getElem h, List.map_append, List.append_assoc]
  rfl
theorem mixT_all (L : List Int) : mixT L L.length = L.map turnSym := by simp [mixT]
theorem mixT_zero (L : List Int) : mixT L 0 = L := by simp [mixT]
theorem mixT_same (L : List Int) (i : Nat) (h : i < L.length) (hs : turnSym (rd L i) = rd L i) : mixT L (i + 1) = mixT L i := by
  rw [← mixT_set L i h, hs]
  have e := mixT_at L i h
  apply List.ext_getElem?
  intro j
  rw [List.getElem?_set]
  split
  · rename_i hj
    subst hj
    rw [e, if_pos (by rw [mixT_len L i (by omega)]; exact h)]
  · rfl
abbrev e8 : Int → Value := Value.int .u8
theorem holdsT {w : World} {g : Nat} {L : List Int} (H : Sort.Holds e8 w g 0 L.toArray) (i : Nat) (h : i < L.length) : w.cell? ⟨g, i, none⟩ = some (.int .u8 (rd L i)) ∧ w.frozen? ⟨g, i, none⟩ = false := by
  have := H i (by simpa using h)
  rw [Nat.zero_add] at this
  refine ⟨this.1.trans ?_, this.2⟩
  unfold rd e8
  rw [Int.toNat_natCast, List.getD_eq_getElem?_getD, List.getElem?_eq_getElem h]
  simp [h]
theorem holdsT_set {w : World} {g : Nat} {L : List Int} (H : Sort.Holds e8 w g 0 L.toArray) (i : Nat) (h : i < L.length) (x : Int) : Sort.Holds e8 (w.setCell ⟨g, i, none⟩ (.int .u8 x)) g 0 (L.set i x).toArray := by
  intro j hj
  have hj' : j < L.length := by simpa using hj
  have hc := H j (by simpa using hj')
  rw [Nat.zero_add] at hc ⊢
  refine ⟨?_, (World.frozen?_setCell _ _ _ _).trans hc.2⟩
  by_cases e : i = j
  · subst e
    rw [World.cell?_setCell_same _ _ _ hc.1]
    simp [e8, hj']
  · rw [World.cell?_setCell_other _ _ _ _ (by intro h_; injection h_ with _ h2 _; exact e h2)]
    rw [hc.1]
    simp [e8, hj', List.getElem_set_ne e]
theorem turn_reverse (a : ByteArray) (ha : a.size ≤ 1048576) (g cap : Nat) (w : World) (H : Sort.Holds e8 w g 0 (bytesOf a).toArray) :
    Calls Try.prog 33 #[.slice (some ⟨g, 0, none⟩) a.size cap] w fun e w' => e = .returned (.tuple #[]) ∧ Sort.Holds e8 w' g 0 (bytesOf a).reverse.toArray ∧ ∀ B w0, Below B w0 w → B ≤ g → Below B w0 w' := by
  have h := AnyE.slices_Reverse Try.lays33 e8 (fun _ => rfl) g 0 cap (bytesOf a) w H (by rw [bytesOf_length]; omega)
  rw [bytesOf_length] at h
  refine h.mono ?_
  rintro e w' ⟨he, n, rfl⟩
  refine ⟨he, Sort.holds_putRow e8 _ g 0 (bytesOf a).toArray _ (Sort.holds_ahead e8 w n g 0 _ H) (by simp), fun B w0 hB hg => Lib.below_putRow hB hg⟩

theorem hold_bytes (W : World) (a : ByteArray) : Sort.Holds e8 (Lib.bytesWorld W 5 a) W.heap.size 0 (bytesOf a).toArray := by
  intro j hj
  have hj' : j < a.size := by simpa [bytesOf_length] using hj
  rw [Nat.zero_add]
  refine ⟨(Lib.bytesWorld_cell W 5 a j hj').trans ?_, ?_⟩
  · have h2 : j < a.data.toList.length := by rw [data_length]; exact hj'
    have h3 : j < a.data.size := hj'
    simp [e8, bytesOf, h3]
    rw [Array.getElem?_eq_getElem h3]
    rfl
  · have h1 : j < (Lib.bytesCells W 5 a).size := by
      have h3 : j < a.data.size := hj'
      simp [Lib.bytesCells]; omega
    simp [World.frozen?, Lib.bytesWorld_at_new]
    omega
set_option maxHeartbeats 4000000 in
set_option maxRecDepth 100000 in
theorem turn_walk (a0 : ByteArray) (w : World) (k : Nat) (A1 : impl_ValidWord.f k a0 = some true) (hs : a0.size ≤ 1048576) :
    Calls Try.prog 11 #[.string a0] w fun e w' => e = .returned (.tuple #[.string (strOfNums (turned a0)), .int .i64 0]) ∧ Below w.heap.size w w' := by
  have A3 := Aside0.mk A1
  have HS := Aside0.mk hs
  have HB := Aside0.mk (Below.refl w.heap.size w)
  obtain ⟨L, hL⟩ : ∃ L, L = (bytesOf a0).reverse := ⟨_, rfl⟩
  have HL := Aside0.mk hL
  have HLL := Aside0.mk (show L.length = a0.size by rw [hL, List.length_reverse, bytesOf_length])
  have kb := fun W => print_bytes (P := Try.prog) 9 30 5 Try.underlying9 Try.underlying30 Try.underlying5 a0 W
  clear A1 hs hL
  go_enter Try.func11, Try.ntmps11
  go_wp2_with (first | (go_at_call 32; (with_reducible refine (impl_ValidWord.calls k a0 true _ A3.out).mono ?_); rintro e w' ⟨rfl, ⟨nd, rfl⟩⟩) | (go_at_call 33; refine (turn_reverse a0 HS.out _ _ _ (hold_bytes (w.drewN nd) a0)).mono ?_; rintro e w1 ⟨rfl, hh, hb⟩; obtain ⟨g, hg⟩ : ∃ g, g = (w.drewN nd).heap.size := ⟨_, rfl⟩; have HH := Aside0.mk (show Sort.Holds e8 w1 g 0 (mixT L 0).toArray by rw [mixT_zero, HL.out, hg]; exact hh); have HB1 := Aside0.mk (hb _ w (bytes_below (pw_below_drewN HB.out nd) (Nat.le_refl _) 5 a0) (Nat.le_refl _)); have HG := Aside0.mk (show w.heap.size ≤ g by rw [hg]; exact Nat.le_refl _); clear hh hb HB; have HB := HB1; clear HB1; clear kb; have hg2 : w.heap.size = g := hg.symm; clear hg; rw [hg2]; have HG2 := Aside0.mk hg2; clear hg2))
  go_loopg [16] (a0.size + 1) (fun kq v16 w' => ∃ i : Nat, v16 = .int .i64 (i : Int) ∧ Aside0 (kq + i = a0.size + 1) ∧ Aside0 (i ≤ a0.size) ∧ Aside0 (Sort.Holds e8 w' g 0 (mixT L i).toArray) ∧ Aside0 (Below w.heap.size w w'))
  case atStart => exact ⟨0, rfl, ⟨by omega⟩, ⟨Nat.zero_le _⟩, HH, HB⟩
  case round =>
    clear HH HB
    obtain ⟨i, rfl, HK, HI, HH, HB⟩ := hrel
    by_cases hlt : i < a0.size
    · have c1 : decide ((i : Int) < (a0.size : Int)) = true := decide_eq_true (by omega)
      have c2 : decide (i < a0.size) = true := decide_eq_true hlt
      have HIL := Aside0.mk (show i < L.length by rw [HLL.out]; exact hlt)
      have HMX := Aside0.mk (show i < (mixT L i).length by rw [mixT_len L i (Nat.le_of_lt HIL.out)]; exact HIL.out)
      obtain ⟨c, hc⟩ : ∃ c, c = rd L i := ⟨_, rfl⟩
      have HC := Aside0.mk hc
      have hcell : ∀ j, (mixT L i)[i]? = j → j = some c := by
        intro j hj
        rw [← hj, hc]
        exact mixT_at L i HIL.out
      have hrd : rd (mixT L i) i = c := by
        unfold rd
        rw [Int.toNat_natCast, List.getD_eq_getElem?_getD, hcell _ rfl]
        rfl
      have hx : wr.cell? ⟨g, i, none⟩ = some (.int .u8 c) := by rw [(holdsT HH.out i HMX.out).1, hrd]
      have hf : wr.frozen? ⟨g, i, none⟩ = false := (holdsT HH.out i HMX.out).2
      obtain ⟨gk1, rfl⟩ : ∃ gk1, gk = gk1 + 1 := ⟨gk - 1, by have := HK.out; omega⟩
      clear hcell hrd hc
      have p0 : 0 ≤ (i : Int) := by omega
      have q0 : (i : Int) < (a0.size : Int) := by omega
      by_cases hin : c = 97 ∨ c = 98
      · have HIN := Aside0.mk (show impl_isInner.f c = some true by
          unfold impl_isInner.f
          rcases hin with rfl | rfl
          · rfl
          · rfl)
        have HT := Aside0.mk (show turnSym c = c by unfold turnSym; rw [if_pos hin])
        clear hin
        go_wp2_with (go_at_call 34; (with_reducible refine (impl_isInner.calls c true _ HIN.out).mono ?_); rintro e w' ⟨rfl, ⟨nd2, rfl⟩⟩)
        go_roundg gk1
        case measure => omega
        case rel => exact ⟨i + 1, by have e9 : wrap64 ((i : Int) + 1) = ((i + 1 : Nat) : Int) := (by have := HS.out; clear c1 c2; unfold wrap64; omega); rw [e9], ⟨by have := HK.out; omega⟩, ⟨hlt⟩, ⟨by rw [mixT_same L i HIL.out (by rw [← HC.out]; exact HT.out)]; exact HH.out⟩, ⟨pw_below_drewN HB.out _⟩⟩
      · have HIN := Aside0.mk (show impl_isInner.f c = some false by
          unfold impl_isInner.f
          rw [if_neg (fun h => hin (.inl h))]
          congr 1
          exact beq_eq_false_iff_ne.2 (fun h => hin (.inr h)))
        obtain ⟨x, hx9⟩ : ∃ x, x = Lib.indexByte (⟨#[40, 91, 41, 93, 97, 98]⟩ : ByteArray).data.toList c.toNat.toUInt8 := ⟨_, rfl⟩
        have HXf := Aside0.mk (show strings_IndexByte.f (⟨#[40, 91, 41, 93, 97, 98]⟩ : ByteArray) c = some x by rw [hx9]; rfl)
        have HXr := indexByte_range c
        rw [← hx9] at HXr
        have HT := Aside0.mk (show turnSym c = bt (⟨#[40, 91, 41, 93, 97, 98]⟩ : ByteArray) ((x + 2) % 4) by unfold turnSym; rw [if_neg hin, hx9])
        have HX := Aside0.mk HXr
        clear hin hx9 HXr
        have hxx : x = -1 ∨ x = 0 ∨ x = 1 ∨ x = 2 ∨ x = 3 ∨ x = 4 ∨ x = 5 := by have := HX.out; omega
        clear HX
        rcases hxx with rfl | rfl | rfl | rfl | rfl | rfl | rfl
        all_goals
          go_wp2_with (first | (go_at_call 34; (with_reducible refine (impl_isInner.calls c false _ HIN.out).mono ?_); rintro e w' ⟨rfl, ⟨nd2, rfl⟩⟩) | (go_at_call 35; (with_reducible refine (strings_IndexByte.calls _ c _ _ HXf.out).mono ?_); rintro e w' ⟨rfl, ⟨nd3, rfl⟩⟩))
        all_goals
          go_roundg gk1
          case measure => omega
          case rel => exact ⟨i + 1, by have e9 : wrap64 ((i : Int) + 1) = ((i + 1 : Nat) : Int) := (by have := HS.out; clear c1 c2; unfold wrap64; omega); rw [e9], ⟨by have := HK.out; omega⟩, ⟨hlt⟩, ⟨by rw [← mixT_set L i HIL.out, ← HC.out, HT.out]; exact holdsT_set (w := wr.drewN (nd2 + nd3)) HH.out i HMX.out _⟩, ⟨below_set (pw_below_drewN HB.out _) HG.out⟩⟩
    · have c1 : decide ((i : Int) < (a0.size : Int)) = false := decide_eq_false (by omega)
      have c2 : decide (i < a0.size) = false := decide_eq_false hlt
      have hin : i = a0.size := by have := HI.out; omega
      subst hin
      have hml : (mixT L a0.size).length = a0.size := by rw [mixT_len L _ (by rw [HLL.out]; exact Nat.le_refl _), HLL.out]
      have hcv : ∀ cap, (convert 30 9 (.slice (some ⟨g, 0, none⟩) a0.size cap)).run Try.prog wr = .ok (.string (strOfNums (mixT L a0.size))) wr := fun cap =>
        run_convert_bytes_arg wr 30 5 Try.underlying30 Try.underlying5 g 0 a0.size cap (mixT L a0.size) hml (fun j hj => by
          rw [Nat.zero_add]
          have h := (holdsT HH.out j (by rw [hml]; exact hj)).1
          unfold rd at h
          rw [Int.toNat_natCast] at h
          exact h) 9 Try.underlying9
      have hfin := Aside0.mk (show strOfNums (mixT L a0.size) = strOfNums (turned a0) by
        unfold turned
        rw [← HL.out, ← mixT_all L, HLL.out])
      clear hml
      go_wp2
      go_ret2
      exact ⟨by rw [hfin.out]; rfl, HB.out⟩
theorem impl_TurnWord.calls (k : Nat) (a0 : ByteArray) (r1 : ByteArray) (r2 : Int) (w : World) (h : impl_TurnWord.f k a0 = some (r1, r2)) :
    Calls Try.prog 11 #[.string a0] w fun e w' => e = .returned (.tuple #[.string r1, .int .i64 r2]) ∧ Below w.heap.size w w' := by
  unfold impl_TurnWord.f at h
  obtain ⟨t, A1, H⟩ := Option.bind_eq_some_iff.mp h
  clear h
  cases t with
  | true =>
    rw [if_pos rfl] at H
    split at H
    · rename_i hs
      simp only [Option.some.injEq, Prod.mk.injEq] at H
      obtain ⟨rfl, rfl⟩ := H
      exact turn_walk a0 w k A1 hs
    · cases H
  | false =>
    rw [if_neg (by decide)] at H
    simp only [Option.some.injEq, Prod.mk.injEq] at H
    obtain ⟨rfl, rfl⟩ := H
    have A3 := Aside0.mk A1
    have HB := Aside0.mk (Below.refl w.heap.size w)
    clear A1
    go_enter Try.func11, Try.ntmps11
    go_wp2_with (go_at_call 32; (with_reducible refine (impl_ValidWord.calls k a0 false _ A3.out).mono ?_); rintro e w' ⟨rfl, ⟨nd, rfl⟩⟩)
    go_ret2
    exact ⟨rfl, pw_below_drewN HB.out _⟩

end Go.Proofs.Ythhmkkclmopkhaa.P
