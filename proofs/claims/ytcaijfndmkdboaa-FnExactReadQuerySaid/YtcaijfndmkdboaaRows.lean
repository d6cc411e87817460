/-
  No cell of these rows narrows 'for every input' (looked for: loops, veiled, ifaces, maps, wideKeys, modest, calm, conditions, laid).
  DERIVED. THE GIVEN ROWS OF THIS SEAT. 12 by the template 'for every input the law returns true; each argument reads behind the call as it read before'; 0 by the template 'total and deterministic' (their statements: YtcaijfndmkdboaaTotals.lean).
  GIVEN WITH THE SEED: the statements are not yours to turn. If you find one false, say at which input.
  Laid BY PROGRAM, IN A SANDBOX (cutbox-rows.mjs): the forced cells as the released guide's own fill.sh prints them over the translation dd9128319bf425f0… (all of the seat's roots in one cut). By AI agents, Wed Nov 11 2026. No macro, syntax, notation, axiom, sorry.
-/
import Derived.Test.YtcaijfndmkdboaaChecked
import GoSem.Claim
import GoSem.ClaimJoined
import GoSem.ClaimMapViews
import Derived.JoinedTies
import Derived.KernelRfl
namespace Go.Proofs.Ytcaijfndmkdboaa
/- THE CELL 'sum', in the pinned program and in every row, IS THE sha256 OF THE DUMP (.gsa) THAT YtcaijfndmkdboaaProg.lean LOADS. Nothing in Lean hashes anything: it is a label: what it is worth is what the hold of that sum in a sandbox is worth. -/
noncomputable def Try.pinned : Pinned := { name := "ytcaijfndmkdboaa", sum := "dd9128319bf425f0de4b0e8ff746ca8a61e2b4b76451dad92fa452de98ebcd89", checked := Try.checked }
namespace Rows
def none {H : Type} : Left H := { results := [], args := [] }

/-- 'laws.FnExactCountMatched': WHATEVER THE INPUT: true; the input reads as it did. -/
def fnExactCountMatchedSpec : ChangeSpec := { name := "fnExactCountMatched", fn := fun _ => fun
  | [d] => { results := [.lit (.bool true)], args := [d] }
  | _ => none }
def fnExactCountMatchedRow : OpenClaim := { program := "ytcaijfndmkdboaa", sum := "dd9128319bf425f0de4b0e8ff746ca8a61e2b4b76451dad92fa452de98ebcd89", func := "loop.example/g01145/laws.FnExactCountMatched", spec := "fnExactCountMatched", apart := false }
def FnExactCountMatchedSaid : Prop := fnExactCountMatchedRow.holds Try.pinned (OpenSpec.ofChange fnExactCountMatchedSpec)

/-- ITS FALSE NEIGHBOUR: 'it returns false'. Refute it at one input. -/
def fnExactCountMatchedWrong : ChangeSpec := { name := "fnExactCountMatched", fn := fun _ => fun
  | [d] => { results := [.lit (.bool false)], args := [d] }
  | _ => none }
def FnExactCountMatchedWrongFalsely : Prop := fnExactCountMatchedRow.holds Try.pinned (OpenSpec.ofChange fnExactCountMatchedWrong)

/-- 'laws.FnExactTurnWord': WHATEVER THE INPUT: true; the input reads as it did. -/
def fnExactTurnWordSpec : ChangeSpec := { name := "fnExactTurnWord", fn := fun _ => fun
  | [d] => { results := [.lit (.bool true)], args := [d] }
  | _ => none }
def fnExactTurnWordRow : OpenClaim := { program := "ytcaijfndmkdboaa", sum := "dd9128319bf425f0de4b0e8ff746ca8a61e2b4b76451dad92fa452de98ebcd89", func := "loop.example/g01145/laws.FnExactTurnWord", spec := "fnExactTurnWord", inPlace := ["internal/bytealg.IndexByteString"], apart := false }
def FnExactTurnWordSaid : Prop := fnExactTurnWordRow.holds Try.pinned (OpenSpec.ofChange fnExactTurnWordSpec)

/-- ITS FALSE NEIGHBOUR: 'it returns false'. Refute it at one input. -/
def fnExactTurnWordWrong : ChangeSpec := { name := "fnExactTurnWord", fn := fun _ => fun
  | [d] => { results := [.lit (.bool false)], args := [d] }
  | _ => none }
def FnExactTurnWordWrongFalsely : Prop := fnExactTurnWordRow.holds Try.pinned (OpenSpec.ofChange fnExactTurnWordWrong)

/-- 'laws.FnTrees': WHATEVER THE INPUT: true; the input reads as it did. -/
def fnTreesSpec : ChangeSpec := { name := "fnTrees", fn := fun _ => fun
  | [d1, d2] => { results := [.lit (.bool true)], args := [d1, d2] }
  | _ => none }
def fnTreesRow : OpenClaim := { program := "ytcaijfndmkdboaa", sum := "dd9128319bf425f0de4b0e8ff746ca8a61e2b4b76451dad92fa452de98ebcd89", func := "loop.example/g01145/laws.FnTrees", spec := "fnTrees", inPlace := ["internal/bytealg.IndexByteString"], apart := false }
def FnTreesSaid : Prop := fnTreesRow.holds Try.pinned (OpenSpec.ofChange fnTreesSpec)

/-- ITS FALSE NEIGHBOUR: 'it returns false'. Refute it at one input. -/
def fnTreesWrong : ChangeSpec := { name := "fnTrees", fn := fun _ => fun
  | [d1, d2] => { results := [.lit (.bool false)], args := [d1, d2] }
  | _ => none }
def FnTreesWrongFalsely : Prop := fnTreesRow.holds Try.pinned (OpenSpec.ofChange fnTreesWrong)

/-- 'laws.FnExactMatchedAt': WHATEVER THE INPUT: true; the input reads as it did. -/
def fnExactMatchedAtSpec : ChangeSpec := { name := "fnExactMatchedAt", fn := fun _ => fun
  | [d1, d2] => { results := [.lit (.bool true)], args := [d1, d2] }
  | _ => none }
def fnExactMatchedAtRow : OpenClaim := { program := "ytcaijfndmkdboaa", sum := "dd9128319bf425f0de4b0e8ff746ca8a61e2b4b76451dad92fa452de98ebcd89", func := "loop.example/g01145/laws.FnExactMatchedAt", spec := "fnExactMatchedAt", apart := false }
def FnExactMatchedAtSaid : Prop := fnExactMatchedAtRow.holds Try.pinned (OpenSpec.ofChange fnExactMatchedAtSpec)

/-- ITS FALSE NEIGHBOUR: 'it returns false'. Refute it at one input. -/
def fnExactMatchedAtWrong : ChangeSpec := { name := "fnExactMatchedAt", fn := fun _ => fun
  | [d1, d2] => { results := [.lit (.bool false)], args := [d1, d2] }
  | _ => none }
def FnExactMatchedAtWrongFalsely : Prop := fnExactMatchedAtRow.holds Try.pinned (OpenSpec.ofChange fnExactMatchedAtWrong)

/-- 'laws.FnMatching': WHATEVER THE INPUT: true; the input reads as it did. -/
def fnMatchingSpec : ChangeSpec := { name := "fnMatching", fn := fun _ => fun
  | [d1, d2] => { results := [.lit (.bool true)], args := [d1, d2] }
  | _ => none }
def fnMatchingRow : OpenClaim := { program := "ytcaijfndmkdboaa", sum := "dd9128319bf425f0de4b0e8ff746ca8a61e2b4b76451dad92fa452de98ebcd89", func := "loop.example/g01145/laws.FnMatching", spec := "fnMatching", inPlace := ["internal/bytealg.IndexByteString"], apart := false }
def FnMatchingSaid : Prop := fnMatchingRow.holds Try.pinned (OpenSpec.ofChange fnMatchingSpec)

/-- ITS FALSE NEIGHBOUR: 'it returns false'. Refute it at one input. -/
def fnMatchingWrong : ChangeSpec := { name := "fnMatching", fn := fun _ => fun
  | [d1, d2] => { results := [.lit (.bool false)], args := [d1, d2] }
  | _ => none }
def FnMatchingWrongFalsely : Prop := fnMatchingRow.holds Try.pinned (OpenSpec.ofChange fnMatchingWrong)

/-- 'laws.FnExactSameAlgebra': WHATEVER THE INPUT: true; the input reads as it did. -/
def fnExactSameAlgebraSpec : ChangeSpec := { name := "fnExactSameAlgebra", fn := fun _ => fun
  | [d1, d2] => { results := [.lit (.bool true)], args := [d1, d2] }
  | _ => none }
def fnExactSameAlgebraRow : OpenClaim := { program := "ytcaijfndmkdboaa", sum := "dd9128319bf425f0de4b0e8ff746ca8a61e2b4b76451dad92fa452de98ebcd89", func := "loop.example/g01145/laws.FnExactSameAlgebra", spec := "fnExactSameAlgebra", unfollowed := true, recurses := true, apart := false }
def FnExactSameAlgebraSaid : Prop := fnExactSameAlgebraRow.holds Try.pinned (OpenSpec.ofChange fnExactSameAlgebraSpec)

/-- ITS FALSE NEIGHBOUR: 'it returns false'. Refute it at one input. -/
def fnExactSameAlgebraWrong : ChangeSpec := { name := "fnExactSameAlgebra", fn := fun _ => fun
  | [d1, d2] => { results := [.lit (.bool false)], args := [d1, d2] }
  | _ => none }
def FnExactSameAlgebraWrongFalsely : Prop := fnExactSameAlgebraRow.holds Try.pinned (OpenSpec.ofChange fnExactSameAlgebraWrong)

/-- 'laws.FnExactRankMatched': WHATEVER THE INPUT: true; the input reads as it did. -/
def fnExactRankMatchedSpec : ChangeSpec := { name := "fnExactRankMatched", fn := fun _ => fun
  | [d] => { results := [.lit (.bool true)], args := [d] }
  | _ => none }
def fnExactRankMatchedRow : OpenClaim := { program := "ytcaijfndmkdboaa", sum := "dd9128319bf425f0de4b0e8ff746ca8a61e2b4b76451dad92fa452de98ebcd89", func := "loop.example/g01145/laws.FnExactRankMatched", spec := "fnExactRankMatched", inPlace := ["internal/bytealg.IndexByteString"], apart := false }
def FnExactRankMatchedSaid : Prop := fnExactRankMatchedRow.holds Try.pinned (OpenSpec.ofChange fnExactRankMatchedSpec)

/-- ITS FALSE NEIGHBOUR: 'it returns false'. Refute it at one input. -/
def fnExactRankMatchedWrong : ChangeSpec := { name := "fnExactRankMatched", fn := fun _ => fun
  | [d] => { results := [.lit (.bool false)], args := [d] }
  | _ => none }
def FnExactRankMatchedWrongFalsely : Prop := fnExactRankMatchedRow.holds Try.pinned (OpenSpec.ofChange fnExactRankMatchedWrong)

/-- 'laws.FnExactKindsChecker': WHATEVER THE INPUT: true; the input reads as it did. -/
def fnExactKindsCheckerSpec : ChangeSpec := { name := "fnExactKindsChecker", fn := fun _ => fun
  | [] => { results := [.lit (.bool true)], args := [] }
  | _ => none }
def fnExactKindsCheckerRow : OpenClaim := { program := "ytcaijfndmkdboaa", sum := "dd9128319bf425f0de4b0e8ff746ca8a61e2b4b76451dad92fa452de98ebcd89", func := "loop.example/g01145/laws.FnExactKindsChecker", spec := "fnExactKindsChecker", unfollowed := true, recurses := true, apart := false }
def FnExactKindsCheckerSaid : Prop := fnExactKindsCheckerRow.holds Try.pinned (OpenSpec.ofChange fnExactKindsCheckerSpec)

/-- ITS FALSE NEIGHBOUR: 'it returns false'. Refute it at one input. -/
def fnExactKindsCheckerWrong : ChangeSpec := { name := "fnExactKindsChecker", fn := fun _ => fun
  | [] => { results := [.lit (.bool false)], args := [] }
  | _ => none }
def FnExactKindsCheckerWrongFalsely : Prop := fnExactKindsCheckerRow.holds Try.pinned (OpenSpec.ofChange fnExactKindsCheckerWrong)

/-- 'laws.FnExactReadQuery': WHATEVER THE INPUT: true; the input reads as it did. -/
def fnExactReadQuerySpec : ChangeSpec := { name := "fnExactReadQuery", fn := fun _ => fun
  | [d] => { results := [.lit (.bool true)], args := [d] }
  | _ => none }
def fnExactReadQueryRow : OpenClaim := { program := "ytcaijfndmkdboaa", sum := "dd9128319bf425f0de4b0e8ff746ca8a61e2b4b76451dad92fa452de98ebcd89", func := "loop.example/g01145/laws.FnExactReadQuery", spec := "fnExactReadQuery", inPlace := ["internal/bytealg.IndexByteString", "internal/bytealg.IndexString"], unfollowed := true, recurses := true, named := ["internal/bytealg.MaxLen"], apart := false }
def FnExactReadQuerySaid : Prop := fnExactReadQueryRow.holds Try.pinned (OpenSpec.ofChange fnExactReadQuerySpec)

/-- ITS FALSE NEIGHBOUR: 'it returns false'. Refute it at one input. -/
def fnExactReadQueryWrong : ChangeSpec := { name := "fnExactReadQuery", fn := fun _ => fun
  | [d] => { results := [.lit (.bool false)], args := [d] }
  | _ => none }
def FnExactReadQueryWrongFalsely : Prop := fnExactReadQueryRow.holds Try.pinned (OpenSpec.ofChange fnExactReadQueryWrong)

/-- 'laws.FnExactSameChecker': WHATEVER THE INPUT: true; the input reads as it did. -/
def fnExactSameCheckerSpec : ChangeSpec := { name := "fnExactSameChecker", fn := fun _ => fun
  | [d1, d2] => { results := [.lit (.bool true)], args := [d1, d2] }
  | _ => none }
def fnExactSameCheckerRow : OpenClaim := { program := "ytcaijfndmkdboaa", sum := "dd9128319bf425f0de4b0e8ff746ca8a61e2b4b76451dad92fa452de98ebcd89", func := "loop.example/g01145/laws.FnExactSameChecker", spec := "fnExactSameChecker", unfollowed := true, recurses := true, apart := false }
def FnExactSameCheckerSaid : Prop := fnExactSameCheckerRow.holds Try.pinned (OpenSpec.ofChange fnExactSameCheckerSpec)

/-- ITS FALSE NEIGHBOUR: 'it returns false'. Refute it at one input. -/
def fnExactSameCheckerWrong : ChangeSpec := { name := "fnExactSameChecker", fn := fun _ => fun
  | [d1, d2] => { results := [.lit (.bool false)], args := [d1, d2] }
  | _ => none }
def FnExactSameCheckerWrongFalsely : Prop := fnExactSameCheckerRow.holds Try.pinned (OpenSpec.ofChange fnExactSameCheckerWrong)

/-- 'laws.FnExactCheckPath': WHATEVER THE INPUT: true; the input reads as it did. -/
def fnExactCheckPathSpec : ChangeSpec := { name := "fnExactCheckPath", fn := fun _ => fun
  | [d1, d2, d3] => { results := [.lit (.bool true)], args := [d1, d2, d3] }
  | _ => none }
def fnExactCheckPathRow : OpenClaim := { program := "ytcaijfndmkdboaa", sum := "dd9128319bf425f0de4b0e8ff746ca8a61e2b4b76451dad92fa452de98ebcd89", func := "loop.example/g01145/laws.FnExactCheckPath", spec := "fnExactCheckPath", inPlace := ["internal/bytealg.IndexByteString", "internal/bytealg.IndexString"], unfollowed := true, recurses := true, named := ["internal/bytealg.MaxLen"], apart := false }
def FnExactCheckPathSaid : Prop := fnExactCheckPathRow.holds Try.pinned (OpenSpec.ofChange fnExactCheckPathSpec)

/-- ITS FALSE NEIGHBOUR: 'it returns false'. Refute it at one input. -/
def fnExactCheckPathWrong : ChangeSpec := { name := "fnExactCheckPath", fn := fun _ => fun
  | [d1, d2, d3] => { results := [.lit (.bool false)], args := [d1, d2, d3] }
  | _ => none }
def FnExactCheckPathWrongFalsely : Prop := fnExactCheckPathRow.holds Try.pinned (OpenSpec.ofChange fnExactCheckPathWrong)

/-- 'laws.FnExactAlikeIn': WHATEVER THE INPUT: true; the input reads as it did. -/
def fnExactAlikeInSpec : ChangeSpec := { name := "fnExactAlikeIn", fn := fun _ => fun
  | [d] => { results := [.lit (.bool true)], args := [d] }
  | _ => none }
def fnExactAlikeInRow : OpenClaim := { program := "ytcaijfndmkdboaa", sum := "dd9128319bf425f0de4b0e8ff746ca8a61e2b4b76451dad92fa452de98ebcd89", func := "loop.example/g01145/laws.FnExactAlikeIn", spec := "fnExactAlikeIn", unfollowed := true, recurses := true, apart := false }
def FnExactAlikeInSaid : Prop := fnExactAlikeInRow.holds Try.pinned (OpenSpec.ofChange fnExactAlikeInSpec)

/-- ITS FALSE NEIGHBOUR: 'it returns false'. Refute it at one input. -/
def fnExactAlikeInWrong : ChangeSpec := { name := "fnExactAlikeIn", fn := fun _ => fun
  | [d] => { results := [.lit (.bool false)], args := [d] }
  | _ => none }
def FnExactAlikeInWrongFalsely : Prop := fnExactAlikeInRow.holds Try.pinned (OpenSpec.ofChange fnExactAlikeInWrong)

/- THE SECOND FORM. 'bulk': how many values and letters a reading holds, each counted each time it is reached (what is shared counts as often as it is met; a slice's spare places count too). A statement '..UptoSaid' is the law's where the arguments, and the package variables that the reading takes, are together of bulk at most 1048576: NARROWER than '..Said'. Prove '..Said' where nothing that the law and all that it calls make is longer than what came in: it says more and counts as full. Else prove '..UptoSaid'. A law counts once. -/
mutual
def uptoBulk {H : Type} : DataW H → Nat
  | .lit (.string bytes) => bytes.length + 1
  | .lit _ => 1
  | .nil => 1
  | .ptr d => uptoBulk d + 1
  | .slice elems spare => uptoBulkAll elems + uptoBulkAll spare + 1
  | .agg parts => uptoBulkAll parts + 1
  | .iface _ d => uptoBulk d + 1
  | .map entries => uptoBulkEntries entries + 1
  | .held _ => 1
def uptoBulkAll {H : Type} : List (DataW H) → Nat
  | [] => 0
  | d :: r => uptoBulk d + uptoBulkAll r
def uptoBulkEntries {H : Type} : List (Lit × DataW H) → Nat
  | [] => 0
  | x :: r => uptoBulkEntry x + uptoBulkEntries r
def uptoBulkEntry {H : Type} : Lit × DataW H → Nat
  | (.string bytes, d) => bytes.length + uptoBulk d + 1
  | (_, d) => uptoBulk d + 1
 end
def uptoSmall : (H : Type) → List (DataW H) → Bool := fun _ ds => decide (uptoBulkAll ds ≤ 1048576)
def OpenSpec.upto (s : _root_.Go.ChangeSpec) : _root_.Go.OpenSpec := { _root_.Go.OpenSpec.ofChange s with cond := some uptoSmall }

/-- 'laws.FnExactCountMatched', WHERE WHAT IT READS IS OF BULK AT MOST 1048576: true; the input reads as it did. -/
def fnExactCountMatchedUptoRow : OpenClaim := { program := "ytcaijfndmkdboaa", sum := "dd9128319bf425f0de4b0e8ff746ca8a61e2b4b76451dad92fa452de98ebcd89", func := "loop.example/g01145/laws.FnExactCountMatched", spec := "fnExactCountMatched", apart := false, narrowed := true }
def FnExactCountMatchedUptoSaid : Prop := fnExactCountMatchedUptoRow.holds Try.pinned (OpenSpec.upto fnExactCountMatchedSpec)

/-- 'laws.FnExactTurnWord', WHERE WHAT IT READS IS OF BULK AT MOST 1048576: true; the input reads as it did. -/
def fnExactTurnWordUptoRow : OpenClaim := { program := "ytcaijfndmkdboaa", sum := "dd9128319bf425f0de4b0e8ff746ca8a61e2b4b76451dad92fa452de98ebcd89", func := "loop.example/g01145/laws.FnExactTurnWord", spec := "fnExactTurnWord", inPlace := ["internal/bytealg.IndexByteString"], apart := false, narrowed := true }
def FnExactTurnWordUptoSaid : Prop := fnExactTurnWordUptoRow.holds Try.pinned (OpenSpec.upto fnExactTurnWordSpec)

/-- 'laws.FnTrees', WHERE WHAT IT READS IS OF BULK AT MOST 1048576: true; the input reads as it did. -/
def fnTreesUptoRow : OpenClaim := { program := "ytcaijfndmkdboaa", sum := "dd9128319bf425f0de4b0e8ff746ca8a61e2b4b76451dad92fa452de98ebcd89", func := "loop.example/g01145/laws.FnTrees", spec := "fnTrees", inPlace := ["internal/bytealg.IndexByteString"], apart := false, narrowed := true }
def FnTreesUptoSaid : Prop := fnTreesUptoRow.holds Try.pinned (OpenSpec.upto fnTreesSpec)

/-- 'laws.FnExactMatchedAt', WHERE WHAT IT READS IS OF BULK AT MOST 1048576: true; the input reads as it did. -/
def fnExactMatchedAtUptoRow : OpenClaim := { program := "ytcaijfndmkdboaa", sum := "dd9128319bf425f0de4b0e8ff746ca8a61e2b4b76451dad92fa452de98ebcd89", func := "loop.example/g01145/laws.FnExactMatchedAt", spec := "fnExactMatchedAt", apart := false, narrowed := true }
def FnExactMatchedAtUptoSaid : Prop := fnExactMatchedAtUptoRow.holds Try.pinned (OpenSpec.upto fnExactMatchedAtSpec)

/-- 'laws.FnMatching', WHERE WHAT IT READS IS OF BULK AT MOST 1048576: true; the input reads as it did. -/
def fnMatchingUptoRow : OpenClaim := { program := "ytcaijfndmkdboaa", sum := "dd9128319bf425f0de4b0e8ff746ca8a61e2b4b76451dad92fa452de98ebcd89", func := "loop.example/g01145/laws.FnMatching", spec := "fnMatching", inPlace := ["internal/bytealg.IndexByteString"], apart := false, narrowed := true }
def FnMatchingUptoSaid : Prop := fnMatchingUptoRow.holds Try.pinned (OpenSpec.upto fnMatchingSpec)

/-- 'laws.FnExactSameAlgebra', WHERE WHAT IT READS IS OF BULK AT MOST 1048576: true; the input reads as it did. -/
def fnExactSameAlgebraUptoRow : OpenClaim := { program := "ytcaijfndmkdboaa", sum := "dd9128319bf425f0de4b0e8ff746ca8a61e2b4b76451dad92fa452de98ebcd89", func := "loop.example/g01145/laws.FnExactSameAlgebra", spec := "fnExactSameAlgebra", unfollowed := true, recurses := true, apart := false, narrowed := true }
def FnExactSameAlgebraUptoSaid : Prop := fnExactSameAlgebraUptoRow.holds Try.pinned (OpenSpec.upto fnExactSameAlgebraSpec)

/-- 'laws.FnExactRankMatched', WHERE WHAT IT READS IS OF BULK AT MOST 1048576: true; the input reads as it did. -/
def fnExactRankMatchedUptoRow : OpenClaim := { program := "ytcaijfndmkdboaa", sum := "dd9128319bf425f0de4b0e8ff746ca8a61e2b4b76451dad92fa452de98ebcd89", func := "loop.example/g01145/laws.FnExactRankMatched", spec := "fnExactRankMatched", inPlace := ["internal/bytealg.IndexByteString"], apart := false, narrowed := true }
def FnExactRankMatchedUptoSaid : Prop := fnExactRankMatchedUptoRow.holds Try.pinned (OpenSpec.upto fnExactRankMatchedSpec)

/-- 'laws.FnExactKindsChecker', WHERE WHAT IT READS IS OF BULK AT MOST 1048576: true; the input reads as it did. -/
def fnExactKindsCheckerUptoRow : OpenClaim := { program := "ytcaijfndmkdboaa", sum := "dd9128319bf425f0de4b0e8ff746ca8a61e2b4b76451dad92fa452de98ebcd89", func := "loop.example/g01145/laws.FnExactKindsChecker", spec := "fnExactKindsChecker", unfollowed := true, recurses := true, apart := false, narrowed := true }
def FnExactKindsCheckerUptoSaid : Prop := fnExactKindsCheckerUptoRow.holds Try.pinned (OpenSpec.upto fnExactKindsCheckerSpec)

/-- 'laws.FnExactReadQuery', WHERE WHAT IT READS IS OF BULK AT MOST 1048576: true; the input reads as it did. -/
def fnExactReadQueryUptoRow : OpenClaim := { program := "ytcaijfndmkdboaa", sum := "dd9128319bf425f0de4b0e8ff746ca8a61e2b4b76451dad92fa452de98ebcd89", func := "loop.example/g01145/laws.FnExactReadQuery", spec := "fnExactReadQuery", inPlace := ["internal/bytealg.IndexByteString", "internal/bytealg.IndexString"], unfollowed := true, recurses := true, named := ["internal/bytealg.MaxLen"], apart := false, narrowed := true }
def FnExactReadQueryUptoSaid : Prop := fnExactReadQueryUptoRow.holds Try.pinned (OpenSpec.upto fnExactReadQuerySpec)

/-- 'laws.FnExactSameChecker', WHERE WHAT IT READS IS OF BULK AT MOST 1048576: true; the input reads as it did. -/
def fnExactSameCheckerUptoRow : OpenClaim := { program := "ytcaijfndmkdboaa", sum := "dd9128319bf425f0de4b0e8ff746ca8a61e2b4b76451dad92fa452de98ebcd89", func := "loop.example/g01145/laws.FnExactSameChecker", spec := "fnExactSameChecker", unfollowed := true, recurses := true, apart := false, narrowed := true }
def FnExactSameCheckerUptoSaid : Prop := fnExactSameCheckerUptoRow.holds Try.pinned (OpenSpec.upto fnExactSameCheckerSpec)

/-- 'laws.FnExactCheckPath', WHERE WHAT IT READS IS OF BULK AT MOST 1048576: true; the input reads as it did. -/
def fnExactCheckPathUptoRow : OpenClaim := { program := "ytcaijfndmkdboaa", sum := "dd9128319bf425f0de4b0e8ff746ca8a61e2b4b76451dad92fa452de98ebcd89", func := "loop.example/g01145/laws.FnExactCheckPath", spec := "fnExactCheckPath", inPlace := ["internal/bytealg.IndexByteString", "internal/bytealg.IndexString"], unfollowed := true, recurses := true, named := ["internal/bytealg.MaxLen"], apart := false, narrowed := true }
def FnExactCheckPathUptoSaid : Prop := fnExactCheckPathUptoRow.holds Try.pinned (OpenSpec.upto fnExactCheckPathSpec)

/-- 'laws.FnExactAlikeIn', WHERE WHAT IT READS IS OF BULK AT MOST 1048576: true; the input reads as it did. -/
def fnExactAlikeInUptoRow : OpenClaim := { program := "ytcaijfndmkdboaa", sum := "dd9128319bf425f0de4b0e8ff746ca8a61e2b4b76451dad92fa452de98ebcd89", func := "loop.example/g01145/laws.FnExactAlikeIn", spec := "fnExactAlikeIn", unfollowed := true, recurses := true, apart := false, narrowed := true }
def FnExactAlikeInUptoSaid : Prop := fnExactAlikeInUptoRow.holds Try.pinned (OpenSpec.upto fnExactAlikeInSpec)

end Rows
end Go.Proofs.Ytcaijfndmkdboaa
