/-
  No cell of these rows narrows 'for every input' (looked for: loops, veiled, ifaces, maps, wideKeys, modest, calm, conditions, laid).
  DERIVED. THE GIVEN ROWS OF THIS SEAT. 12 by the template 'for every input the law returns true; each argument reads behind the call as it read before'; 0 by the template 'total and deterministic' (their statements: YtndlepcfbbfegaaTotals.lean).
  GIVEN WITH THE SEED: the statements are not yours to turn. If you find one false, say at which input.
  Laid BY PROGRAM, IN A SANDBOX (cutbox-rows.mjs): the forced cells as the released guide's own fill.sh prints them over the translation ad594b53ec190f6b… (all of the seat's roots in one cut). By AI agents, Wed Nov 11 2026. No macro, syntax, notation, axiom, sorry.
-/
import Derived.Test.YtndlepcfbbfegaaChecked
import GoSem.Claim
import GoSem.ClaimJoined
import GoSem.ClaimMapViews
import Derived.JoinedTies
import Derived.KernelRfl
namespace Go.Proofs.Ytndlepcfbbfegaa
/- THE CELL 'sum', in the pinned program and in every row, IS THE sha256 OF THE DUMP (.gsa) THAT YtndlepcfbbfegaaProg.lean LOADS. Nothing in Lean hashes anything: it is a label: what it is worth is what the hold of that sum in a sandbox is worth. -/
noncomputable def Try.pinned : Pinned := { name := "ytndlepcfbbfegaa", sum := "ad594b53ec190f6b09743d3b19fb07881f636bb0958a07d369cd803752f0f635", checked := Try.checked }
namespace Rows
def none {H : Type} : Left H := { results := [], args := [] }

/-- 'laws.FnMatching': WHATEVER THE INPUT: true; the input reads as it did. -/
def fnMatchingSpec : ChangeSpec := { name := "fnMatching", fn := fun _ => fun
  | [d1, d2] => { results := [.lit (.bool true)], args := [d1, d2] }
  | _ => none }
def fnMatchingRow : OpenClaim := { program := "ytndlepcfbbfegaa", sum := "ad594b53ec190f6b09743d3b19fb07881f636bb0958a07d369cd803752f0f635", func := "loop.example/g01145/laws.FnMatching", spec := "fnMatching", inPlace := ["internal/bytealg.IndexByteString"], apart := false }
def FnMatchingSaid : Prop := fnMatchingRow.holds Try.pinned (OpenSpec.ofChange fnMatchingSpec)

/-- ITS FALSE NEIGHBOUR: 'it returns false'. Refute it at one input. -/
def fnMatchingWrong : ChangeSpec := { name := "fnMatching", fn := fun _ => fun
  | [d1, d2] => { results := [.lit (.bool false)], args := [d1, d2] }
  | _ => none }
def FnMatchingWrongFalsely : Prop := fnMatchingRow.holds Try.pinned (OpenSpec.ofChange fnMatchingWrong)

/-- 'laws.FnExactSameAlgebra': WHATEVER THE INPUT: true; the input reads as it did. -/
def fnExactSameAlgebraSpec : ChangeSpec := { name := "fnExactSameAlgebra", fn := fun _ => fun
  | [d1, d2] => { results := [.lit (.bool true)], args := [d1, d2] }
  | _ => none }
def fnExactSameAlgebraRow : OpenClaim := { program := "ytndlepcfbbfegaa", sum := "ad594b53ec190f6b09743d3b19fb07881f636bb0958a07d369cd803752f0f635", func := "loop.example/g01145/laws.FnExactSameAlgebra", spec := "fnExactSameAlgebra", unfollowed := true, recurses := true, apart := false }
def FnExactSameAlgebraSaid : Prop := fnExactSameAlgebraRow.holds Try.pinned (OpenSpec.ofChange fnExactSameAlgebraSpec)

/-- ITS FALSE NEIGHBOUR: 'it returns false'. Refute it at one input. -/
def fnExactSameAlgebraWrong : ChangeSpec := { name := "fnExactSameAlgebra", fn := fun _ => fun
  | [d1, d2] => { results := [.lit (.bool false)], args := [d1, d2] }
  | _ => none }
def FnExactSameAlgebraWrongFalsely : Prop := fnExactSameAlgebraRow.holds Try.pinned (OpenSpec.ofChange fnExactSameAlgebraWrong)

/-- 'laws.FnExactFactorsOf': WHATEVER THE INPUT: true; the input reads as it did. -/
def fnExactFactorsOfSpec : ChangeSpec := { name := "fnExactFactorsOf", fn := fun _ => fun
  | [d] => { results := [.lit (.bool true)], args := [d] }
  | _ => none }
def fnExactFactorsOfRow : OpenClaim := { program := "ytndlepcfbbfegaa", sum := "ad594b53ec190f6b09743d3b19fb07881f636bb0958a07d369cd803752f0f635", func := "loop.example/g01145/laws.FnExactFactorsOf", spec := "fnExactFactorsOf", inPlace := ["internal/bytealg.IndexByteString"], apart := false }
def FnExactFactorsOfSaid : Prop := fnExactFactorsOfRow.holds Try.pinned (OpenSpec.ofChange fnExactFactorsOfSpec)

/-- ITS FALSE NEIGHBOUR: 'it returns false'. Refute it at one input. -/
def fnExactFactorsOfWrong : ChangeSpec := { name := "fnExactFactorsOf", fn := fun _ => fun
  | [d] => { results := [.lit (.bool false)], args := [d] }
  | _ => none }
def FnExactFactorsOfWrongFalsely : Prop := fnExactFactorsOfRow.holds Try.pinned (OpenSpec.ofChange fnExactFactorsOfWrong)

/-- 'laws.FnExactRankMatched': WHATEVER THE INPUT: true; the input reads as it did. -/
def fnExactRankMatchedSpec : ChangeSpec := { name := "fnExactRankMatched", fn := fun _ => fun
  | [d] => { results := [.lit (.bool true)], args := [d] }
  | _ => none }
def fnExactRankMatchedRow : OpenClaim := { program := "ytndlepcfbbfegaa", sum := "ad594b53ec190f6b09743d3b19fb07881f636bb0958a07d369cd803752f0f635", func := "loop.example/g01145/laws.FnExactRankMatched", spec := "fnExactRankMatched", inPlace := ["internal/bytealg.IndexByteString"], apart := false }
def FnExactRankMatchedSaid : Prop := fnExactRankMatchedRow.holds Try.pinned (OpenSpec.ofChange fnExactRankMatchedSpec)

/-- ITS FALSE NEIGHBOUR: 'it returns false'. Refute it at one input. -/
def fnExactRankMatchedWrong : ChangeSpec := { name := "fnExactRankMatched", fn := fun _ => fun
  | [d] => { results := [.lit (.bool false)], args := [d] }
  | _ => none }
def FnExactRankMatchedWrongFalsely : Prop := fnExactRankMatchedRow.holds Try.pinned (OpenSpec.ofChange fnExactRankMatchedWrong)

/-- 'laws.FnExactValidQuery': WHATEVER THE INPUT: true; the input reads as it did. -/
def fnExactValidQuerySpec : ChangeSpec := { name := "fnExactValidQuery", fn := fun _ => fun
  | [d] => { results := [.lit (.bool true)], args := [d] }
  | _ => none }
def fnExactValidQueryRow : OpenClaim := { program := "ytndlepcfbbfegaa", sum := "ad594b53ec190f6b09743d3b19fb07881f636bb0958a07d369cd803752f0f635", func := "loop.example/g01145/laws.FnExactValidQuery", spec := "fnExactValidQuery", inPlace := ["internal/bytealg.IndexByteString", "internal/bytealg.IndexString"], unfollowed := true, recurses := true, named := ["internal/bytealg.MaxLen"], apart := false }
def FnExactValidQuerySaid : Prop := fnExactValidQueryRow.holds Try.pinned (OpenSpec.ofChange fnExactValidQuerySpec)

/-- ITS FALSE NEIGHBOUR: 'it returns false'. Refute it at one input. -/
def fnExactValidQueryWrong : ChangeSpec := { name := "fnExactValidQuery", fn := fun _ => fun
  | [d] => { results := [.lit (.bool false)], args := [d] }
  | _ => none }
def FnExactValidQueryWrongFalsely : Prop := fnExactValidQueryRow.holds Try.pinned (OpenSpec.ofChange fnExactValidQueryWrong)

/-- 'laws.FnExactSameWatcher': WHATEVER THE INPUT: true; the input reads as it did. -/
def fnExactSameWatcherSpec : ChangeSpec := { name := "fnExactSameWatcher", fn := fun _ => fun
  | [d1, d2] => { results := [.lit (.bool true)], args := [d1, d2] }
  | _ => none }
def fnExactSameWatcherRow : OpenClaim := { program := "ytndlepcfbbfegaa", sum := "ad594b53ec190f6b09743d3b19fb07881f636bb0958a07d369cd803752f0f635", func := "loop.example/g01145/laws.FnExactSameWatcher", spec := "fnExactSameWatcher", unfollowed := true, recurses := true, apart := false }
def FnExactSameWatcherSaid : Prop := fnExactSameWatcherRow.holds Try.pinned (OpenSpec.ofChange fnExactSameWatcherSpec)

/-- ITS FALSE NEIGHBOUR: 'it returns false'. Refute it at one input. -/
def fnExactSameWatcherWrong : ChangeSpec := { name := "fnExactSameWatcher", fn := fun _ => fun
  | [d1, d2] => { results := [.lit (.bool false)], args := [d1, d2] }
  | _ => none }
def FnExactSameWatcherWrongFalsely : Prop := fnExactSameWatcherRow.holds Try.pinned (OpenSpec.ofChange fnExactSameWatcherWrong)

/-- 'laws.FnExactQueryText': WHATEVER THE INPUT: true; the input reads as it did. -/
def fnExactQueryTextSpec : ChangeSpec := { name := "fnExactQueryText", fn := fun _ => fun
  | [d] => { results := [.lit (.bool true)], args := [d] }
  | _ => none }
def fnExactQueryTextRow : OpenClaim := { program := "ytndlepcfbbfegaa", sum := "ad594b53ec190f6b09743d3b19fb07881f636bb0958a07d369cd803752f0f635", func := "loop.example/g01145/laws.FnExactQueryText", spec := "fnExactQueryText", inPlace := ["internal/bytealg.IndexByteString", "internal/bytealg.IndexString"], unfollowed := true, recurses := true, named := ["internal/bytealg.MaxLen"], apart := false }
def FnExactQueryTextSaid : Prop := fnExactQueryTextRow.holds Try.pinned (OpenSpec.ofChange fnExactQueryTextSpec)

/-- ITS FALSE NEIGHBOUR: 'it returns false'. Refute it at one input. -/
def fnExactQueryTextWrong : ChangeSpec := { name := "fnExactQueryText", fn := fun _ => fun
  | [d] => { results := [.lit (.bool false)], args := [d] }
  | _ => none }
def FnExactQueryTextWrongFalsely : Prop := fnExactQueryTextRow.holds Try.pinned (OpenSpec.ofChange fnExactQueryTextWrong)

/-- 'laws.FnExactValidAlgebra': WHATEVER THE INPUT: true; the input reads as it did. -/
def fnExactValidAlgebraSpec : ChangeSpec := { name := "fnExactValidAlgebra", fn := fun _ => fun
  | [d] => { results := [.lit (.bool true)], args := [d] }
  | _ => none }
def fnExactValidAlgebraRow : OpenClaim := { program := "ytndlepcfbbfegaa", sum := "ad594b53ec190f6b09743d3b19fb07881f636bb0958a07d369cd803752f0f635", func := "loop.example/g01145/laws.FnExactValidAlgebra", spec := "fnExactValidAlgebra", unfollowed := true, recurses := true, apart := false }
def FnExactValidAlgebraSaid : Prop := fnExactValidAlgebraRow.holds Try.pinned (OpenSpec.ofChange fnExactValidAlgebraSpec)

/-- ITS FALSE NEIGHBOUR: 'it returns false'. Refute it at one input. -/
def fnExactValidAlgebraWrong : ChangeSpec := { name := "fnExactValidAlgebra", fn := fun _ => fun
  | [d] => { results := [.lit (.bool false)], args := [d] }
  | _ => none }
def FnExactValidAlgebraWrongFalsely : Prop := fnExactValidAlgebraRow.holds Try.pinned (OpenSpec.ofChange fnExactValidAlgebraWrong)

/-- 'laws.FnExactKindsChecker': WHATEVER THE INPUT: true; the input reads as it did. -/
def fnExactKindsCheckerSpec : ChangeSpec := { name := "fnExactKindsChecker", fn := fun _ => fun
  | [] => { results := [.lit (.bool true)], args := [] }
  | _ => none }
def fnExactKindsCheckerRow : OpenClaim := { program := "ytndlepcfbbfegaa", sum := "ad594b53ec190f6b09743d3b19fb07881f636bb0958a07d369cd803752f0f635", func := "loop.example/g01145/laws.FnExactKindsChecker", spec := "fnExactKindsChecker", unfollowed := true, recurses := true, apart := false }
def FnExactKindsCheckerSaid : Prop := fnExactKindsCheckerRow.holds Try.pinned (OpenSpec.ofChange fnExactKindsCheckerSpec)

/-- ITS FALSE NEIGHBOUR: 'it returns false'. Refute it at one input. -/
def fnExactKindsCheckerWrong : ChangeSpec := { name := "fnExactKindsChecker", fn := fun _ => fun
  | [] => { results := [.lit (.bool false)], args := [] }
  | _ => none }
def FnExactKindsCheckerWrongFalsely : Prop := fnExactKindsCheckerRow.holds Try.pinned (OpenSpec.ofChange fnExactKindsCheckerWrong)

/-- 'laws.FnExactMatchedChecker': WHATEVER THE INPUT: true; the input reads as it did. -/
def fnExactMatchedCheckerSpec : ChangeSpec := { name := "fnExactMatchedChecker", fn := fun _ => fun
  | [] => { results := [.lit (.bool true)], args := [] }
  | _ => none }
def fnExactMatchedCheckerRow : OpenClaim := { program := "ytndlepcfbbfegaa", sum := "ad594b53ec190f6b09743d3b19fb07881f636bb0958a07d369cd803752f0f635", func := "loop.example/g01145/laws.FnExactMatchedChecker", spec := "fnExactMatchedChecker", unfollowed := true, recurses := true, apart := false }
def FnExactMatchedCheckerSaid : Prop := fnExactMatchedCheckerRow.holds Try.pinned (OpenSpec.ofChange fnExactMatchedCheckerSpec)

/-- ITS FALSE NEIGHBOUR: 'it returns false'. Refute it at one input. -/
def fnExactMatchedCheckerWrong : ChangeSpec := { name := "fnExactMatchedChecker", fn := fun _ => fun
  | [] => { results := [.lit (.bool false)], args := [] }
  | _ => none }
def FnExactMatchedCheckerWrongFalsely : Prop := fnExactMatchedCheckerRow.holds Try.pinned (OpenSpec.ofChange fnExactMatchedCheckerWrong)

/-- 'laws.FnExactReadQuery': WHATEVER THE INPUT: true; the input reads as it did. -/
def fnExactReadQuerySpec : ChangeSpec := { name := "fnExactReadQuery", fn := fun _ => fun
  | [d] => { results := [.lit (.bool true)], args := [d] }
  | _ => none }
def fnExactReadQueryRow : OpenClaim := { program := "ytndlepcfbbfegaa", sum := "ad594b53ec190f6b09743d3b19fb07881f636bb0958a07d369cd803752f0f635", func := "loop.example/g01145/laws.FnExactReadQuery", spec := "fnExactReadQuery", inPlace := ["internal/bytealg.IndexByteString", "internal/bytealg.IndexString"], unfollowed := true, recurses := true, named := ["internal/bytealg.MaxLen"], apart := false }
def FnExactReadQuerySaid : Prop := fnExactReadQueryRow.holds Try.pinned (OpenSpec.ofChange fnExactReadQuerySpec)

/-- ITS FALSE NEIGHBOUR: 'it returns false'. Refute it at one input. -/
def fnExactReadQueryWrong : ChangeSpec := { name := "fnExactReadQuery", fn := fun _ => fun
  | [d] => { results := [.lit (.bool false)], args := [d] }
  | _ => none }
def FnExactReadQueryWrongFalsely : Prop := fnExactReadQueryRow.holds Try.pinned (OpenSpec.ofChange fnExactReadQueryWrong)

/-- 'laws.FnExactDepthChecker': WHATEVER THE INPUT: true; the input reads as it did. -/
def fnExactDepthCheckerSpec : ChangeSpec := { name := "fnExactDepthChecker", fn := fun _ => fun
  | [d] => { results := [.lit (.bool true)], args := [d] }
  | _ => none }
def fnExactDepthCheckerRow : OpenClaim := { program := "ytndlepcfbbfegaa", sum := "ad594b53ec190f6b09743d3b19fb07881f636bb0958a07d369cd803752f0f635", func := "loop.example/g01145/laws.FnExactDepthChecker", spec := "fnExactDepthChecker", unfollowed := true, recurses := true, apart := false }
def FnExactDepthCheckerSaid : Prop := fnExactDepthCheckerRow.holds Try.pinned (OpenSpec.ofChange fnExactDepthCheckerSpec)

/-- ITS FALSE NEIGHBOUR: 'it returns false'. Refute it at one input. -/
def fnExactDepthCheckerWrong : ChangeSpec := { name := "fnExactDepthChecker", fn := fun _ => fun
  | [d] => { results := [.lit (.bool false)], args := [d] }
  | _ => none }
def FnExactDepthCheckerWrongFalsely : Prop := fnExactDepthCheckerRow.holds Try.pinned (OpenSpec.ofChange fnExactDepthCheckerWrong)

/- THE SECOND FORM. 'bulk': how many values and letters a reading holds, each counted each time it is reached (what is shared counts as often as it is met; a slice's spare places count too). A statement '..UptoSaid' is the law's where the arguments, and the package variables that the reading takes, are together of bulk at most 1048576: NARROWER than '..Said'. Prove '..Said' where nothing that the law and all that it calls make is longer than what came in: it says more and counts as full. Else prove '..UptoSaid'. A law counts once. -/
mutual
def uptoBulk {H : Type} : DataW H → Nat
  | .lit (.string bytes) => bytes.length + 1
  | .lit _ => 1
  | .nil => 1
  | .ptr d => uptoBulk d + 1
  | .slice elems spare => uptoBulkAll elems + uptoBulkAll spare + 1
  | .agg parts => uptoBulkAll parts + 1
  | .iface _ d => uptoBulk d + 1
  | .map entries => uptoBulkEntries entries + 1
  | .held _ => 1
def uptoBulkAll {H : Type} : List (DataW H) → Nat
  | [] => 0
  | d :: r => uptoBulk d + uptoBulkAll r
def uptoBulkEntries {H : Type} : List (Lit × DataW H) → Nat
  | [] => 0
  | x :: r => uptoBulkEntry x + uptoBulkEntries r
def uptoBulkEntry {H : Type} : Lit × DataW H → Nat
  | (.string bytes, d) => bytes.length + uptoBulk d + 1
  | (_, d) => uptoBulk d + 1
 end
def uptoSmall : (H : Type) → List (DataW H) → Bool := fun _ ds => decide (uptoBulkAll ds ≤ 1048576)
def OpenSpec.upto (s : _root_.Go.ChangeSpec) : _root_.Go.OpenSpec := { _root_.Go.OpenSpec.ofChange s with cond := some uptoSmall }

/-- 'laws.FnMatching', WHERE WHAT IT READS IS OF BULK AT MOST 1048576: true; the input reads as it did. -/
def fnMatchingUptoRow : OpenClaim := { program := "ytndlepcfbbfegaa", sum := "ad594b53ec190f6b09743d3b19fb07881f636bb0958a07d369cd803752f0f635", func := "loop.example/g01145/laws.FnMatching", spec := "fnMatching", inPlace := ["internal/bytealg.IndexByteString"], apart := false, narrowed := true }
def FnMatchingUptoSaid : Prop := fnMatchingUptoRow.holds Try.pinned (OpenSpec.upto fnMatchingSpec)

/-- 'laws.FnExactSameAlgebra', WHERE WHAT IT READS IS OF BULK AT MOST 1048576: true; the input reads as it did. -/
def fnExactSameAlgebraUptoRow : OpenClaim := { program := "ytndlepcfbbfegaa", sum := "ad594b53ec190f6b09743d3b19fb07881f636bb0958a07d369cd803752f0f635", func := "loop.example/g01145/laws.FnExactSameAlgebra", spec := "fnExactSameAlgebra", unfollowed := true, recurses := true, apart := false, narrowed := true }
def FnExactSameAlgebraUptoSaid : Prop := fnExactSameAlgebraUptoRow.holds Try.pinned (OpenSpec.upto fnExactSameAlgebraSpec)

/-- 'laws.FnExactFactorsOf', WHERE WHAT IT READS IS OF BULK AT MOST 1048576: true; the input reads as it did. -/
def fnExactFactorsOfUptoRow : OpenClaim := { program := "ytndlepcfbbfegaa", sum := "ad594b53ec190f6b09743d3b19fb07881f636bb0958a07d369cd803752f0f635", func := "loop.example/g01145/laws.FnExactFactorsOf", spec := "fnExactFactorsOf", inPlace := ["internal/bytealg.IndexByteString"], apart := false, narrowed := true }
def FnExactFactorsOfUptoSaid : Prop := fnExactFactorsOfUptoRow.holds Try.pinned (OpenSpec.upto fnExactFactorsOfSpec)

/-- 'laws.FnExactRankMatched', WHERE WHAT IT READS IS OF BULK AT MOST 1048576: true; the input reads as it did. -/
def fnExactRankMatchedUptoRow : OpenClaim := { program := "ytndlepcfbbfegaa", sum := "ad594b53ec190f6b09743d3b19fb07881f636bb0958a07d369cd803752f0f635", func := "loop.example/g01145/laws.FnExactRankMatched", spec := "fnExactRankMatched", inPlace := ["internal/bytealg.IndexByteString"], apart := false, narrowed := true }
def FnExactRankMatchedUptoSaid : Prop := fnExactRankMatchedUptoRow.holds Try.pinned (OpenSpec.upto fnExactRankMatchedSpec)

/-- 'laws.FnExactValidQuery', WHERE WHAT IT READS IS OF BULK AT MOST 1048576: true; the input reads as it did. -/
def fnExactValidQueryUptoRow : OpenClaim := { program := "ytndlepcfbbfegaa", sum := "ad594b53ec190f6b09743d3b19fb07881f636bb0958a07d369cd803752f0f635", func := "loop.example/g01145/laws.FnExactValidQuery", spec := "fnExactValidQuery", inPlace := ["internal/bytealg.IndexByteString", "internal/bytealg.IndexString"], unfollowed := true, recurses := true, named := ["internal/bytealg.MaxLen"], apart := false, narrowed := true }
def FnExactValidQueryUptoSaid : Prop := fnExactValidQueryUptoRow.holds Try.pinned (OpenSpec.upto fnExactValidQuerySpec)

/-- 'laws.FnExactSameWatcher', WHERE WHAT IT READS IS OF BULK AT MOST 1048576: true; the input reads as it did. -/
def fnExactSameWatcherUptoRow : OpenClaim := { program := "ytndlepcfbbfegaa", sum := "ad594b53ec190f6b09743d3b19fb07881f636bb0958a07d369cd803752f0f635", func := "loop.example/g01145/laws.FnExactSameWatcher", spec := "fnExactSameWatcher", unfollowed := true, recurses := true, apart := false, narrowed := true }
def FnExactSameWatcherUptoSaid : Prop := fnExactSameWatcherUptoRow.holds Try.pinned (OpenSpec.upto fnExactSameWatcherSpec)

/-- 'laws.FnExactQueryText', WHERE WHAT IT READS IS OF BULK AT MOST 1048576: true; the input reads as it did. -/
def fnExactQueryTextUptoRow : OpenClaim := { program := "ytndlepcfbbfegaa", sum := "ad594b53ec190f6b09743d3b19fb07881f636bb0958a07d369cd803752f0f635", func := "loop.example/g01145/laws.FnExactQueryText", spec := "fnExactQueryText", inPlace := ["internal/bytealg.IndexByteString", "internal/bytealg.IndexString"], unfollowed := true, recurses := true, named := ["internal/bytealg.MaxLen"], apart := false, narrowed := true }
def FnExactQueryTextUptoSaid : Prop := fnExactQueryTextUptoRow.holds Try.pinned (OpenSpec.upto fnExactQueryTextSpec)

/-- 'laws.FnExactValidAlgebra', WHERE WHAT IT READS IS OF BULK AT MOST 1048576: true; the input reads as it did. -/
def fnExactValidAlgebraUptoRow : OpenClaim := { program := "ytndlepcfbbfegaa", sum := "ad594b53ec190f6b09743d3b19fb07881f636bb0958a07d369cd803752f0f635", func := "loop.example/g01145/laws.FnExactValidAlgebra", spec := "fnExactValidAlgebra", unfollowed := true, recurses := true, apart := false, narrowed := true }
def FnExactValidAlgebraUptoSaid : Prop := fnExactValidAlgebraUptoRow.holds Try.pinned (OpenSpec.upto fnExactValidAlgebraSpec)

/-- 'laws.FnExactKindsChecker', WHERE WHAT IT READS IS OF BULK AT MOST 1048576: true; the input reads as it did. -/
def fnExactKindsCheckerUptoRow : OpenClaim := { program := "ytndlepcfbbfegaa", sum := "ad594b53ec190f6b09743d3b19fb07881f636bb0958a07d369cd803752f0f635", func := "loop.example/g01145/laws.FnExactKindsChecker", spec := "fnExactKindsChecker", unfollowed := true, recurses := true, apart := false, narrowed := true }
def FnExactKindsCheckerUptoSaid : Prop := fnExactKindsCheckerUptoRow.holds Try.pinned (OpenSpec.upto fnExactKindsCheckerSpec)

/-- 'laws.FnExactMatchedChecker', WHERE WHAT IT READS IS OF BULK AT MOST 1048576: true; the input reads as it did. -/
def fnExactMatchedCheckerUptoRow : OpenClaim := { program := "ytndlepcfbbfegaa", sum := "ad594b53ec190f6b09743d3b19fb07881f636bb0958a07d369cd803752f0f635", func := "loop.example/g01145/laws.FnExactMatchedChecker", spec := "fnExactMatchedChecker", unfollowed := true, recurses := true, apart := false, narrowed := true }
def FnExactMatchedCheckerUptoSaid : Prop := fnExactMatchedCheckerUptoRow.holds Try.pinned (OpenSpec.upto fnExactMatchedCheckerSpec)

/-- 'laws.FnExactReadQuery', WHERE WHAT IT READS IS OF BULK AT MOST 1048576: true; the input reads as it did. -/
def fnExactReadQueryUptoRow : OpenClaim := { program := "ytndlepcfbbfegaa", sum := "ad594b53ec190f6b09743d3b19fb07881f636bb0958a07d369cd803752f0f635", func := "loop.example/g01145/laws.FnExactReadQuery", spec := "fnExactReadQuery", inPlace := ["internal/bytealg.IndexByteString", "internal/bytealg.IndexString"], unfollowed := true, recurses := true, named := ["internal/bytealg.MaxLen"], apart := false, narrowed := true }
def FnExactReadQueryUptoSaid : Prop := fnExactReadQueryUptoRow.holds Try.pinned (OpenSpec.upto fnExactReadQuerySpec)

/-- 'laws.FnExactDepthChecker', WHERE WHAT IT READS IS OF BULK AT MOST 1048576: true; the input reads as it did. -/
def fnExactDepthCheckerUptoRow : OpenClaim := { program := "ytndlepcfbbfegaa", sum := "ad594b53ec190f6b09743d3b19fb07881f636bb0958a07d369cd803752f0f635", func := "loop.example/g01145/laws.FnExactDepthChecker", spec := "fnExactDepthChecker", unfollowed := true, recurses := true, apart := false, narrowed := true }
def FnExactDepthCheckerUptoSaid : Prop := fnExactDepthCheckerUptoRow.holds Try.pinned (OpenSpec.upto fnExactDepthCheckerSpec)

end Rows
end Go.Proofs.Ytndlepcfbbfegaa
