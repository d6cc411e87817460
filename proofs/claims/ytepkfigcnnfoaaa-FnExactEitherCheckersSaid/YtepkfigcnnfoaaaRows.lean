/-
  No cell of these rows narrows 'for every input' (looked for: loops, veiled, ifaces, maps, wideKeys, modest, calm, conditions, laid).
  DERIVED. THE GIVEN ROWS OF THIS SEAT. 7 by the template 'for every input the law returns true; each argument reads behind the call as it read before'; 0 by the template 'total and deterministic' (their statements: YtepkfigcnnfoaaaTotals.lean).
  GIVEN WITH THE SEED: the statements are not yours to turn. If you find one false, say at which input.
  Laid BY PROGRAM, IN A SANDBOX (cutbox-rows.mjs): the forced cells as the released guide's own fill.sh prints them over the translation 438aa27f5f2af04b… (all of the seat's roots in one cut). By AI agents, Wed Nov 11 2026. No macro, syntax, notation, axiom, sorry.
-/
import Derived.Test.YtepkfigcnnfoaaaChecked
import GoSem.Claim
import GoSem.ClaimJoined
import GoSem.ClaimMapViews
import Derived.JoinedTies
import Derived.KernelRfl
namespace Go.Proofs.Ytepkfigcnnfoaaa
/- THE CELL 'sum', in the pinned program and in every row, IS THE sha256 OF THE DUMP (.gsa) THAT YtepkfigcnnfoaaaProg.lean LOADS. Nothing in Lean hashes anything: it is a label: what it is worth is what the hold of that sum in a sandbox is worth. -/
noncomputable def Try.pinned : Pinned := { name := "ytepkfigcnnfoaaa", sum := "438aa27f5f2af04ba899075549bde004d166e67787eeefe6ca02dabfa1d4d92e", checked := Try.checked }
namespace Rows
def none {H : Type} : Left H := { results := [], args := [] }

/-- 'laws.FnExactKindsChecker': WHATEVER THE INPUT: true; the input reads as it did. -/
def fnExactKindsCheckerSpec : ChangeSpec := { name := "fnExactKindsChecker", fn := fun _ => fun
  | [] => { results := [.lit (.bool true)], args := [] }
  | _ => none }
def fnExactKindsCheckerRow : OpenClaim := { program := "ytepkfigcnnfoaaa", sum := "438aa27f5f2af04ba899075549bde004d166e67787eeefe6ca02dabfa1d4d92e", func := "loop.example/g01145/laws.FnExactKindsChecker", spec := "fnExactKindsChecker", unfollowed := true, recurses := true, apart := false }
def FnExactKindsCheckerSaid : Prop := fnExactKindsCheckerRow.holds Try.pinned (OpenSpec.ofChange fnExactKindsCheckerSpec)

/-- ITS FALSE NEIGHBOUR: 'it returns false'. Refute it at one input. -/
def fnExactKindsCheckerWrong : ChangeSpec := { name := "fnExactKindsChecker", fn := fun _ => fun
  | [] => { results := [.lit (.bool false)], args := [] }
  | _ => none }
def FnExactKindsCheckerWrongFalsely : Prop := fnExactKindsCheckerRow.holds Try.pinned (OpenSpec.ofChange fnExactKindsCheckerWrong)

/-- 'laws.FnExactMatchedChecker': WHATEVER THE INPUT: true; the input reads as it did. -/
def fnExactMatchedCheckerSpec : ChangeSpec := { name := "fnExactMatchedChecker", fn := fun _ => fun
  | [] => { results := [.lit (.bool true)], args := [] }
  | _ => none }
def fnExactMatchedCheckerRow : OpenClaim := { program := "ytepkfigcnnfoaaa", sum := "438aa27f5f2af04ba899075549bde004d166e67787eeefe6ca02dabfa1d4d92e", func := "loop.example/g01145/laws.FnExactMatchedChecker", spec := "fnExactMatchedChecker", unfollowed := true, recurses := true, apart := false }
def FnExactMatchedCheckerSaid : Prop := fnExactMatchedCheckerRow.holds Try.pinned (OpenSpec.ofChange fnExactMatchedCheckerSpec)

/-- ITS FALSE NEIGHBOUR: 'it returns false'. Refute it at one input. -/
def fnExactMatchedCheckerWrong : ChangeSpec := { name := "fnExactMatchedChecker", fn := fun _ => fun
  | [] => { results := [.lit (.bool false)], args := [] }
  | _ => none }
def FnExactMatchedCheckerWrongFalsely : Prop := fnExactMatchedCheckerRow.holds Try.pinned (OpenSpec.ofChange fnExactMatchedCheckerWrong)

/-- 'laws.FnExactDepthChecker': WHATEVER THE INPUT: true; the input reads as it did. -/
def fnExactDepthCheckerSpec : ChangeSpec := { name := "fnExactDepthChecker", fn := fun _ => fun
  | [d] => { results := [.lit (.bool true)], args := [d] }
  | _ => none }
def fnExactDepthCheckerRow : OpenClaim := { program := "ytepkfigcnnfoaaa", sum := "438aa27f5f2af04ba899075549bde004d166e67787eeefe6ca02dabfa1d4d92e", func := "loop.example/g01145/laws.FnExactDepthChecker", spec := "fnExactDepthChecker", unfollowed := true, recurses := true, apart := false }
def FnExactDepthCheckerSaid : Prop := fnExactDepthCheckerRow.holds Try.pinned (OpenSpec.ofChange fnExactDepthCheckerSpec)

/-- ITS FALSE NEIGHBOUR: 'it returns false'. Refute it at one input. -/
def fnExactDepthCheckerWrong : ChangeSpec := { name := "fnExactDepthChecker", fn := fun _ => fun
  | [d] => { results := [.lit (.bool false)], args := [d] }
  | _ => none }
def FnExactDepthCheckerWrongFalsely : Prop := fnExactDepthCheckerRow.holds Try.pinned (OpenSpec.ofChange fnExactDepthCheckerWrong)

/-- 'laws.FnExactCountChecker': WHATEVER THE INPUT: true; the input reads as it did. -/
def fnExactCountCheckerSpec : ChangeSpec := { name := "fnExactCountChecker", fn := fun _ => fun
  | [d1, d2] => { results := [.lit (.bool true)], args := [d1, d2] }
  | _ => none }
def fnExactCountCheckerRow : OpenClaim := { program := "ytepkfigcnnfoaaa", sum := "438aa27f5f2af04ba899075549bde004d166e67787eeefe6ca02dabfa1d4d92e", func := "loop.example/g01145/laws.FnExactCountChecker", spec := "fnExactCountChecker", inPlace := ["internal/bytealg.IndexByteString"], unfollowed := true, recurses := true, apart := false }
def FnExactCountCheckerSaid : Prop := fnExactCountCheckerRow.holds Try.pinned (OpenSpec.ofChange fnExactCountCheckerSpec)

/-- ITS FALSE NEIGHBOUR: 'it returns false'. Refute it at one input. -/
def fnExactCountCheckerWrong : ChangeSpec := { name := "fnExactCountChecker", fn := fun _ => fun
  | [d1, d2] => { results := [.lit (.bool false)], args := [d1, d2] }
  | _ => none }
def FnExactCountCheckerWrongFalsely : Prop := fnExactCountCheckerRow.holds Try.pinned (OpenSpec.ofChange fnExactCountCheckerWrong)

/-- 'laws.FnExactOppositeChecker': WHATEVER THE INPUT: true; the input reads as it did. -/
def fnExactOppositeCheckerSpec : ChangeSpec := { name := "fnExactOppositeChecker", fn := fun _ => fun
  | [d] => { results := [.lit (.bool true)], args := [d] }
  | _ => none }
def fnExactOppositeCheckerRow : OpenClaim := { program := "ytepkfigcnnfoaaa", sum := "438aa27f5f2af04ba899075549bde004d166e67787eeefe6ca02dabfa1d4d92e", func := "loop.example/g01145/laws.FnExactOppositeChecker", spec := "fnExactOppositeChecker", unfollowed := true, recurses := true, apart := false }
def FnExactOppositeCheckerSaid : Prop := fnExactOppositeCheckerRow.holds Try.pinned (OpenSpec.ofChange fnExactOppositeCheckerSpec)

/-- ITS FALSE NEIGHBOUR: 'it returns false'. Refute it at one input. -/
def fnExactOppositeCheckerWrong : ChangeSpec := { name := "fnExactOppositeChecker", fn := fun _ => fun
  | [d] => { results := [.lit (.bool false)], args := [d] }
  | _ => none }
def FnExactOppositeCheckerWrongFalsely : Prop := fnExactOppositeCheckerRow.holds Try.pinned (OpenSpec.ofChange fnExactOppositeCheckerWrong)

/-- 'laws.FnExactBothCheckers': WHATEVER THE INPUT: true; the input reads as it did. -/
def fnExactBothCheckersSpec : ChangeSpec := { name := "fnExactBothCheckers", fn := fun _ => fun
  | [d1, d2] => { results := [.lit (.bool true)], args := [d1, d2] }
  | _ => none }
def fnExactBothCheckersRow : OpenClaim := { program := "ytepkfigcnnfoaaa", sum := "438aa27f5f2af04ba899075549bde004d166e67787eeefe6ca02dabfa1d4d92e", func := "loop.example/g01145/laws.FnExactBothCheckers", spec := "fnExactBothCheckers", unfollowed := true, recurses := true, apart := false }
def FnExactBothCheckersSaid : Prop := fnExactBothCheckersRow.holds Try.pinned (OpenSpec.ofChange fnExactBothCheckersSpec)

/-- ITS FALSE NEIGHBOUR: 'it returns false'. Refute it at one input. -/
def fnExactBothCheckersWrong : ChangeSpec := { name := "fnExactBothCheckers", fn := fun _ => fun
  | [d1, d2] => { results := [.lit (.bool false)], args := [d1, d2] }
  | _ => none }
def FnExactBothCheckersWrongFalsely : Prop := fnExactBothCheckersRow.holds Try.pinned (OpenSpec.ofChange fnExactBothCheckersWrong)

/-- 'laws.FnExactEitherCheckers': WHATEVER THE INPUT: true; the input reads as it did. -/
def fnExactEitherCheckersSpec : ChangeSpec := { name := "fnExactEitherCheckers", fn := fun _ => fun
  | [d1, d2] => { results := [.lit (.bool true)], args := [d1, d2] }
  | _ => none }
def fnExactEitherCheckersRow : OpenClaim := { program := "ytepkfigcnnfoaaa", sum := "438aa27f5f2af04ba899075549bde004d166e67787eeefe6ca02dabfa1d4d92e", func := "loop.example/g01145/laws.FnExactEitherCheckers", spec := "fnExactEitherCheckers", unfollowed := true, recurses := true, apart := false }
def FnExactEitherCheckersSaid : Prop := fnExactEitherCheckersRow.holds Try.pinned (OpenSpec.ofChange fnExactEitherCheckersSpec)

/-- ITS FALSE NEIGHBOUR: 'it returns false'. Refute it at one input. -/
def fnExactEitherCheckersWrong : ChangeSpec := { name := "fnExactEitherCheckers", fn := fun _ => fun
  | [d1, d2] => { results := [.lit (.bool false)], args := [d1, d2] }
  | _ => none }
def FnExactEitherCheckersWrongFalsely : Prop := fnExactEitherCheckersRow.holds Try.pinned (OpenSpec.ofChange fnExactEitherCheckersWrong)

/- THE SECOND FORM. 'bulk': how many values and letters a reading holds, each counted each time it is reached (what is shared counts as often as it is met; a slice's spare places count too). A statement '..UptoSaid' is the law's where the arguments, and the package variables that the reading takes, are together of bulk at most 1048576: NARROWER than '..Said'. Prove '..Said' where nothing that the law and all that it calls make is longer than what came in: it says more and counts as full. Else prove '..UptoSaid'. A law counts once. -/
mutual
def uptoBulk {H : Type} : DataW H → Nat
  | .lit (.string bytes) => bytes.length + 1
  | .lit _ => 1
  | .nil => 1
  | .ptr d => uptoBulk d + 1
  | .slice elems spare => uptoBulkAll elems + uptoBulkAll spare + 1
  | .agg parts => uptoBulkAll parts + 1
  | .iface _ d => uptoBulk d + 1
  | .map entries => uptoBulkEntries entries + 1
  | .held _ => 1
def uptoBulkAll {H : Type} : List (DataW H) → Nat
  | [] => 0
  | d :: r => uptoBulk d + uptoBulkAll r
def uptoBulkEntries {H : Type} : List (Lit × DataW H) → Nat
  | [] => 0
  | x :: r => uptoBulkEntry x + uptoBulkEntries r
def uptoBulkEntry {H : Type} : Lit × DataW H → Nat
  | (.string bytes, d) => bytes.length + uptoBulk d + 1
  | (_, d) => uptoBulk d + 1
 end
def uptoSmall : (H : Type) → List (DataW H) → Bool := fun _ ds => decide (uptoBulkAll ds ≤ 1048576)
def OpenSpec.upto (s : _root_.Go.ChangeSpec) : _root_.Go.OpenSpec := { _root_.Go.OpenSpec.ofChange s with cond := some uptoSmall }

/-- 'laws.FnExactKindsChecker', WHERE WHAT IT READS IS OF BULK AT MOST 1048576: true; the input reads as it did. -/
def fnExactKindsCheckerUptoRow : OpenClaim := { program := "ytepkfigcnnfoaaa", sum := "438aa27f5f2af04ba899075549bde004d166e67787eeefe6ca02dabfa1d4d92e", func := "loop.example/g01145/laws.FnExactKindsChecker", spec := "fnExactKindsChecker", unfollowed := true, recurses := true, apart := false, narrowed := true }
def FnExactKindsCheckerUptoSaid : Prop := fnExactKindsCheckerUptoRow.holds Try.pinned (OpenSpec.upto fnExactKindsCheckerSpec)

/-- 'laws.FnExactMatchedChecker', WHERE WHAT IT READS IS OF BULK AT MOST 1048576: true; the input reads as it did. -/
def fnExactMatchedCheckerUptoRow : OpenClaim := { program := "ytepkfigcnnfoaaa", sum := "438aa27f5f2af04ba899075549bde004d166e67787eeefe6ca02dabfa1d4d92e", func := "loop.example/g01145/laws.FnExactMatchedChecker", spec := "fnExactMatchedChecker", unfollowed := true, recurses := true, apart := false, narrowed := true }
def FnExactMatchedCheckerUptoSaid : Prop := fnExactMatchedCheckerUptoRow.holds Try.pinned (OpenSpec.upto fnExactMatchedCheckerSpec)

/-- 'laws.FnExactDepthChecker', WHERE WHAT IT READS IS OF BULK AT MOST 1048576: true; the input reads as it did. -/
def fnExactDepthCheckerUptoRow : OpenClaim := { program := "ytepkfigcnnfoaaa", sum := "438aa27f5f2af04ba899075549bde004d166e67787eeefe6ca02dabfa1d4d92e", func := "loop.example/g01145/laws.FnExactDepthChecker", spec := "fnExactDepthChecker", unfollowed := true, recurses := true, apart := false, narrowed := true }
def FnExactDepthCheckerUptoSaid : Prop := fnExactDepthCheckerUptoRow.holds Try.pinned (OpenSpec.upto fnExactDepthCheckerSpec)

/-- 'laws.FnExactCountChecker', WHERE WHAT IT READS IS OF BULK AT MOST 1048576: true; the input reads as it did. -/
def fnExactCountCheckerUptoRow : OpenClaim := { program := "ytepkfigcnnfoaaa", sum := "438aa27f5f2af04ba899075549bde004d166e67787eeefe6ca02dabfa1d4d92e", func := "loop.example/g01145/laws.FnExactCountChecker", spec := "fnExactCountChecker", inPlace := ["internal/bytealg.IndexByteString"], unfollowed := true, recurses := true, apart := false, narrowed := true }
def FnExactCountCheckerUptoSaid : Prop := fnExactCountCheckerUptoRow.holds Try.pinned (OpenSpec.upto fnExactCountCheckerSpec)

/-- 'laws.FnExactOppositeChecker', WHERE WHAT IT READS IS OF BULK AT MOST 1048576: true; the input reads as it did. -/
def fnExactOppositeCheckerUptoRow : OpenClaim := { program := "ytepkfigcnnfoaaa", sum := "438aa27f5f2af04ba899075549bde004d166e67787eeefe6ca02dabfa1d4d92e", func := "loop.example/g01145/laws.FnExactOppositeChecker", spec := "fnExactOppositeChecker", unfollowed := true, recurses := true, apart := false, narrowed := true }
def FnExactOppositeCheckerUptoSaid : Prop := fnExactOppositeCheckerUptoRow.holds Try.pinned (OpenSpec.upto fnExactOppositeCheckerSpec)

/-- 'laws.FnExactBothCheckers', WHERE WHAT IT READS IS OF BULK AT MOST 1048576: true; the input reads as it did. -/
def fnExactBothCheckersUptoRow : OpenClaim := { program := "ytepkfigcnnfoaaa", sum := "438aa27f5f2af04ba899075549bde004d166e67787eeefe6ca02dabfa1d4d92e", func := "loop.example/g01145/laws.FnExactBothCheckers", spec := "fnExactBothCheckers", unfollowed := true, recurses := true, apart := false, narrowed := true }
def FnExactBothCheckersUptoSaid : Prop := fnExactBothCheckersUptoRow.holds Try.pinned (OpenSpec.upto fnExactBothCheckersSpec)

/-- 'laws.FnExactEitherCheckers', WHERE WHAT IT READS IS OF BULK AT MOST 1048576: true; the input reads as it did. -/
def fnExactEitherCheckersUptoRow : OpenClaim := { program := "ytepkfigcnnfoaaa", sum := "438aa27f5f2af04ba899075549bde004d166e67787eeefe6ca02dabfa1d4d92e", func := "loop.example/g01145/laws.FnExactEitherCheckers", spec := "fnExactEitherCheckers", unfollowed := true, recurses := true, apart := false, narrowed := true }
def FnExactEitherCheckersUptoSaid : Prop := fnExactEitherCheckersUptoRow.holds Try.pinned (OpenSpec.upto fnExactEitherCheckersSpec)

end Rows
end Go.Proofs.Ytepkfigcnnfoaaa
