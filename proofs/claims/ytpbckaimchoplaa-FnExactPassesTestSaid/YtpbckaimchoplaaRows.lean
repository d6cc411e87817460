/-
  No cell of these rows narrows 'for every input' (looked for: loops, veiled, ifaces, maps, wideKeys, modest, calm, conditions, laid).
  DERIVED. THE GIVEN ROWS OF THIS SEAT. 12 by the template 'for every input the law returns true; each argument reads behind the call as it read before'; 0 by the template 'total and deterministic' (their statements: YtpbckaimchoplaaTotals.lean).
  GIVEN WITH THE SEED: the statements are not yours to turn. If you find one false, say at which input.
  Laid BY PROGRAM, IN A SANDBOX (cutbox-rows.mjs): the forced cells as the released guide's own fill.sh prints them over the translation 9ab239de115b3e8a… (all of the seat's roots in one cut). By AI agents, Wed Nov 11 2026. No macro, syntax, notation, axiom, sorry.
-/
import Derived.Test.YtpbckaimchoplaaChecked
import GoSem.Claim
import GoSem.ClaimJoined
import GoSem.ClaimMapViews
import Derived.JoinedTies
import Derived.KernelRfl
namespace Go.Proofs.Ytpbckaimchoplaa
/- THE CELL 'sum', in the pinned program and in every row, IS THE sha256 OF THE DUMP (.gsa) THAT YtpbckaimchoplaaProg.lean LOADS. Nothing in Lean hashes anything: it is a label: what it is worth is what the hold of that sum in a sandbox is worth. -/
noncomputable def Try.pinned : Pinned := { name := "ytpbckaimchoplaa", sum := "9ab239de115b3e8a4ec29e7f6ec62a383c435acdb8d3f73bfb9394ce81a19f91", checked := Try.checked }
namespace Rows
def none {H : Type} : Left H := { results := [], args := [] }

/-- 'laws.FnExactDepthsOf': WHATEVER THE INPUT: true; the input reads as it did. -/
def fnExactDepthsOfSpec : ChangeSpec := { name := "fnExactDepthsOf", fn := fun _ => fun
  | [d] => { results := [.lit (.bool true)], args := [d] }
  | _ => none }
def fnExactDepthsOfRow : OpenClaim := { program := "ytpbckaimchoplaa", sum := "9ab239de115b3e8a4ec29e7f6ec62a383c435acdb8d3f73bfb9394ce81a19f91", func := "loop.example/g01145/laws.FnExactDepthsOf", spec := "fnExactDepthsOf", inPlace := ["internal/bytealg.IndexByteString"], apart := false }
def FnExactDepthsOfSaid : Prop := fnExactDepthsOfRow.holds Try.pinned (OpenSpec.ofChange fnExactDepthsOfSpec)

/-- ITS FALSE NEIGHBOUR: 'it returns false'. Refute it at one input. -/
def fnExactDepthsOfWrong : ChangeSpec := { name := "fnExactDepthsOf", fn := fun _ => fun
  | [d] => { results := [.lit (.bool false)], args := [d] }
  | _ => none }
def FnExactDepthsOfWrongFalsely : Prop := fnExactDepthsOfRow.holds Try.pinned (OpenSpec.ofChange fnExactDepthsOfWrong)

/-- 'laws.FnPairs': WHATEVER THE INPUT: true; the input reads as it did. -/
def fnPairsSpec : ChangeSpec := { name := "fnPairs", fn := fun _ => fun
  | [d1, d2] => { results := [.lit (.bool true)], args := [d1, d2] }
  | _ => none }
def fnPairsRow : OpenClaim := { program := "ytpbckaimchoplaa", sum := "9ab239de115b3e8a4ec29e7f6ec62a383c435acdb8d3f73bfb9394ce81a19f91", func := "loop.example/g01145/laws.FnPairs", spec := "fnPairs", inPlace := ["internal/bytealg.IndexByteString"], unfollowed := true, recurses := true, apart := false }
def FnPairsSaid : Prop := fnPairsRow.holds Try.pinned (OpenSpec.ofChange fnPairsSpec)

/-- ITS FALSE NEIGHBOUR: 'it returns false'. Refute it at one input. -/
def fnPairsWrong : ChangeSpec := { name := "fnPairs", fn := fun _ => fun
  | [d1, d2] => { results := [.lit (.bool false)], args := [d1, d2] }
  | _ => none }
def FnPairsWrongFalsely : Prop := fnPairsRow.holds Try.pinned (OpenSpec.ofChange fnPairsWrong)

/-- 'laws.FnExactIsMatched': WHATEVER THE INPUT: true; the input reads as it did. -/
def fnExactIsMatchedSpec : ChangeSpec := { name := "fnExactIsMatched", fn := fun _ => fun
  | [d] => { results := [.lit (.bool true)], args := [d] }
  | _ => none }
def fnExactIsMatchedRow : OpenClaim := { program := "ytpbckaimchoplaa", sum := "9ab239de115b3e8a4ec29e7f6ec62a383c435acdb8d3f73bfb9394ce81a19f91", func := "loop.example/g01145/laws.FnExactIsMatched", spec := "fnExactIsMatched", inPlace := ["internal/bytealg.IndexByteString"], apart := false }
def FnExactIsMatchedSaid : Prop := fnExactIsMatchedRow.holds Try.pinned (OpenSpec.ofChange fnExactIsMatchedSpec)

/-- ITS FALSE NEIGHBOUR: 'it returns false'. Refute it at one input. -/
def fnExactIsMatchedWrong : ChangeSpec := { name := "fnExactIsMatched", fn := fun _ => fun
  | [d] => { results := [.lit (.bool false)], args := [d] }
  | _ => none }
def FnExactIsMatchedWrongFalsely : Prop := fnExactIsMatchedRow.holds Try.pinned (OpenSpec.ofChange fnExactIsMatchedWrong)

/-- 'laws.FnExactPartnersOf': WHATEVER THE INPUT: true; the input reads as it did. -/
def fnExactPartnersOfSpec : ChangeSpec := { name := "fnExactPartnersOf", fn := fun _ => fun
  | [d] => { results := [.lit (.bool true)], args := [d] }
  | _ => none }
def fnExactPartnersOfRow : OpenClaim := { program := "ytpbckaimchoplaa", sum := "9ab239de115b3e8a4ec29e7f6ec62a383c435acdb8d3f73bfb9394ce81a19f91", func := "loop.example/g01145/laws.FnExactPartnersOf", spec := "fnExactPartnersOf", inPlace := ["internal/bytealg.IndexByteString"], apart := false }
def FnExactPartnersOfSaid : Prop := fnExactPartnersOfRow.holds Try.pinned (OpenSpec.ofChange fnExactPartnersOfSpec)

/-- ITS FALSE NEIGHBOUR: 'it returns false'. Refute it at one input. -/
def fnExactPartnersOfWrong : ChangeSpec := { name := "fnExactPartnersOf", fn := fun _ => fun
  | [d] => { results := [.lit (.bool false)], args := [d] }
  | _ => none }
def FnExactPartnersOfWrongFalsely : Prop := fnExactPartnersOfRow.holds Try.pinned (OpenSpec.ofChange fnExactPartnersOfWrong)

/-- 'laws.FnExactBodyOf': WHATEVER THE INPUT: true; the input reads as it did. -/
def fnExactBodyOfSpec : ChangeSpec := { name := "fnExactBodyOf", fn := fun _ => fun
  | [d1, d2] => { results := [.lit (.bool true)], args := [d1, d2] }
  | _ => none }
def fnExactBodyOfRow : OpenClaim := { program := "ytpbckaimchoplaa", sum := "9ab239de115b3e8a4ec29e7f6ec62a383c435acdb8d3f73bfb9394ce81a19f91", func := "loop.example/g01145/laws.FnExactBodyOf", spec := "fnExactBodyOf", inPlace := ["internal/bytealg.IndexByteString"], apart := false }
def FnExactBodyOfSaid : Prop := fnExactBodyOfRow.holds Try.pinned (OpenSpec.ofChange fnExactBodyOfSpec)

/-- ITS FALSE NEIGHBOUR: 'it returns false'. Refute it at one input. -/
def fnExactBodyOfWrong : ChangeSpec := { name := "fnExactBodyOf", fn := fun _ => fun
  | [d1, d2] => { results := [.lit (.bool false)], args := [d1, d2] }
  | _ => none }
def FnExactBodyOfWrongFalsely : Prop := fnExactBodyOfRow.holds Try.pinned (OpenSpec.ofChange fnExactBodyOfWrong)

/-- 'laws.FnExactCutMatched': WHATEVER THE INPUT: true; the input reads as it did. -/
def fnExactCutMatchedSpec : ChangeSpec := { name := "fnExactCutMatched", fn := fun _ => fun
  | [d1, d2] => { results := [.lit (.bool true)], args := [d1, d2] }
  | _ => none }
def fnExactCutMatchedRow : OpenClaim := { program := "ytpbckaimchoplaa", sum := "9ab239de115b3e8a4ec29e7f6ec62a383c435acdb8d3f73bfb9394ce81a19f91", func := "loop.example/g01145/laws.FnExactCutMatched", spec := "fnExactCutMatched", inPlace := ["internal/bytealg.IndexByteString"], apart := false }
def FnExactCutMatchedSaid : Prop := fnExactCutMatchedRow.holds Try.pinned (OpenSpec.ofChange fnExactCutMatchedSpec)

/-- ITS FALSE NEIGHBOUR: 'it returns false'. Refute it at one input. -/
def fnExactCutMatchedWrong : ChangeSpec := { name := "fnExactCutMatched", fn := fun _ => fun
  | [d1, d2] => { results := [.lit (.bool false)], args := [d1, d2] }
  | _ => none }
def FnExactCutMatchedWrongFalsely : Prop := fnExactCutMatchedRow.holds Try.pinned (OpenSpec.ofChange fnExactCutMatchedWrong)

/-- 'laws.FnDepths': WHATEVER THE INPUT: true; the input reads as it did. -/
def fnDepthsSpec : ChangeSpec := { name := "fnDepths", fn := fun _ => fun
  | [d1, d2] => { results := [.lit (.bool true)], args := [d1, d2] }
  | _ => none }
def fnDepthsRow : OpenClaim := { program := "ytpbckaimchoplaa", sum := "9ab239de115b3e8a4ec29e7f6ec62a383c435acdb8d3f73bfb9394ce81a19f91", func := "loop.example/g01145/laws.FnDepths", spec := "fnDepths", inPlace := ["internal/bytealg.IndexByteString"], apart := false }
def FnDepthsSaid : Prop := fnDepthsRow.holds Try.pinned (OpenSpec.ofChange fnDepthsSpec)

/-- ITS FALSE NEIGHBOUR: 'it returns false'. Refute it at one input. -/
def fnDepthsWrong : ChangeSpec := { name := "fnDepths", fn := fun _ => fun
  | [d1, d2] => { results := [.lit (.bool false)], args := [d1, d2] }
  | _ => none }
def FnDepthsWrongFalsely : Prop := fnDepthsRow.holds Try.pinned (OpenSpec.ofChange fnDepthsWrong)

/-- 'laws.FnExactParentsOf': WHATEVER THE INPUT: true; the input reads as it did. -/
def fnExactParentsOfSpec : ChangeSpec := { name := "fnExactParentsOf", fn := fun _ => fun
  | [d] => { results := [.lit (.bool true)], args := [d] }
  | _ => none }
def fnExactParentsOfRow : OpenClaim := { program := "ytpbckaimchoplaa", sum := "9ab239de115b3e8a4ec29e7f6ec62a383c435acdb8d3f73bfb9394ce81a19f91", func := "loop.example/g01145/laws.FnExactParentsOf", spec := "fnExactParentsOf", inPlace := ["internal/bytealg.IndexByteString"], apart := false }
def FnExactParentsOfSaid : Prop := fnExactParentsOfRow.holds Try.pinned (OpenSpec.ofChange fnExactParentsOfSpec)

/-- ITS FALSE NEIGHBOUR: 'it returns false'. Refute it at one input. -/
def fnExactParentsOfWrong : ChangeSpec := { name := "fnExactParentsOf", fn := fun _ => fun
  | [d] => { results := [.lit (.bool false)], args := [d] }
  | _ => none }
def FnExactParentsOfWrongFalsely : Prop := fnExactParentsOfRow.holds Try.pinned (OpenSpec.ofChange fnExactParentsOfWrong)

/-- 'laws.FnPutAndCut': WHATEVER THE INPUT: true; the input reads as it did. -/
def fnPutAndCutSpec : ChangeSpec := { name := "fnPutAndCut", fn := fun _ => fun
  | [d1, d2] => { results := [.lit (.bool true)], args := [d1, d2] }
  | _ => none }
def fnPutAndCutRow : OpenClaim := { program := "ytpbckaimchoplaa", sum := "9ab239de115b3e8a4ec29e7f6ec62a383c435acdb8d3f73bfb9394ce81a19f91", func := "loop.example/g01145/laws.FnPutAndCut", spec := "fnPutAndCut", inPlace := ["internal/bytealg.IndexByteString", "internal/abi.NoEscape", "internal/bytealg.MakeNoZero"], apart := false }
def FnPutAndCutSaid : Prop := fnPutAndCutRow.holds Try.pinned (OpenSpec.ofChange fnPutAndCutSpec)

/-- ITS FALSE NEIGHBOUR: 'it returns false'. Refute it at one input. -/
def fnPutAndCutWrong : ChangeSpec := { name := "fnPutAndCut", fn := fun _ => fun
  | [d1, d2] => { results := [.lit (.bool false)], args := [d1, d2] }
  | _ => none }
def FnPutAndCutWrongFalsely : Prop := fnPutAndCutRow.holds Try.pinned (OpenSpec.ofChange fnPutAndCutWrong)

/-- 'laws.FnExactPutAt': WHATEVER THE INPUT: true; the input reads as it did. -/
def fnExactPutAtSpec : ChangeSpec := { name := "fnExactPutAt", fn := fun _ => fun
  | [d1, d2, d3] => { results := [.lit (.bool true)], args := [d1, d2, d3] }
  | _ => none }
def fnExactPutAtRow : OpenClaim := { program := "ytpbckaimchoplaa", sum := "9ab239de115b3e8a4ec29e7f6ec62a383c435acdb8d3f73bfb9394ce81a19f91", func := "loop.example/g01145/laws.FnExactPutAt", spec := "fnExactPutAt", inPlace := ["internal/bytealg.IndexByteString"], apart := false }
def FnExactPutAtSaid : Prop := fnExactPutAtRow.holds Try.pinned (OpenSpec.ofChange fnExactPutAtSpec)

/-- ITS FALSE NEIGHBOUR: 'it returns false'. Refute it at one input. -/
def fnExactPutAtWrong : ChangeSpec := { name := "fnExactPutAt", fn := fun _ => fun
  | [d1, d2, d3] => { results := [.lit (.bool false)], args := [d1, d2, d3] }
  | _ => none }
def FnExactPutAtWrongFalsely : Prop := fnExactPutAtRow.holds Try.pinned (OpenSpec.ofChange fnExactPutAtWrong)

/-- 'laws.FnExactChildrenOf': WHATEVER THE INPUT: true; the input reads as it did. -/
def fnExactChildrenOfSpec : ChangeSpec := { name := "fnExactChildrenOf", fn := fun _ => fun
  | [d1, d2] => { results := [.lit (.bool true)], args := [d1, d2] }
  | _ => none }
def fnExactChildrenOfRow : OpenClaim := { program := "ytpbckaimchoplaa", sum := "9ab239de115b3e8a4ec29e7f6ec62a383c435acdb8d3f73bfb9394ce81a19f91", func := "loop.example/g01145/laws.FnExactChildrenOf", spec := "fnExactChildrenOf", inPlace := ["internal/bytealg.IndexByteString"], apart := false }
def FnExactChildrenOfSaid : Prop := fnExactChildrenOfRow.holds Try.pinned (OpenSpec.ofChange fnExactChildrenOfSpec)

/-- ITS FALSE NEIGHBOUR: 'it returns false'. Refute it at one input. -/
def fnExactChildrenOfWrong : ChangeSpec := { name := "fnExactChildrenOf", fn := fun _ => fun
  | [d1, d2] => { results := [.lit (.bool false)], args := [d1, d2] }
  | _ => none }
def FnExactChildrenOfWrongFalsely : Prop := fnExactChildrenOfRow.holds Try.pinned (OpenSpec.ofChange fnExactChildrenOfWrong)

/-- 'laws.FnExactPassesTest': WHATEVER THE INPUT: true; the input reads as it did. -/
def fnExactPassesTestSpec : ChangeSpec := { name := "fnExactPassesTest", fn := fun _ => fun
  | [d1, d2] => { results := [.lit (.bool true)], args := [d1, d2] }
  | _ => none }
def fnExactPassesTestRow : OpenClaim := { program := "ytpbckaimchoplaa", sum := "9ab239de115b3e8a4ec29e7f6ec62a383c435acdb8d3f73bfb9394ce81a19f91", func := "loop.example/g01145/laws.FnExactPassesTest", spec := "fnExactPassesTest", inPlace := ["internal/bytealg.IndexByteString", "internal/bytealg.IndexString"], named := ["internal/bytealg.MaxLen"], apart := false }
def FnExactPassesTestSaid : Prop := fnExactPassesTestRow.holds Try.pinned (OpenSpec.ofChange fnExactPassesTestSpec)

/-- ITS FALSE NEIGHBOUR: 'it returns false'. Refute it at one input. -/
def fnExactPassesTestWrong : ChangeSpec := { name := "fnExactPassesTest", fn := fun _ => fun
  | [d1, d2] => { results := [.lit (.bool false)], args := [d1, d2] }
  | _ => none }
def FnExactPassesTestWrongFalsely : Prop := fnExactPassesTestRow.holds Try.pinned (OpenSpec.ofChange fnExactPassesTestWrong)

/- THE SECOND FORM. 'bulk': how many values and letters a reading holds, each counted each time it is reached (what is shared counts as often as it is met; a slice's spare places count too). A statement '..UptoSaid' is the law's where the arguments, and the package variables that the reading takes, are together of bulk at most 1048576: NARROWER than '..Said'. Prove '..Said' where nothing that the law and all that it calls make is longer than what came in: it says more and counts as full. Else prove '..UptoSaid'. A law counts once. -/
mutual
def uptoBulk {H : Type} : DataW H → Nat
  | .lit (.string bytes) => bytes.length + 1
  | .lit _ => 1
  | .nil => 1
  | .ptr d => uptoBulk d + 1
  | .slice elems spare => uptoBulkAll elems + uptoBulkAll spare + 1
  | .agg parts => uptoBulkAll parts + 1
  | .iface _ d => uptoBulk d + 1
  | .map entries => uptoBulkEntries entries + 1
  | .held _ => 1
def uptoBulkAll {H : Type} : List (DataW H) → Nat
  | [] => 0
  | d :: r => uptoBulk d + uptoBulkAll r
def uptoBulkEntries {H : Type} : List (Lit × DataW H) → Nat
  | [] => 0
  | x :: r => uptoBulkEntry x + uptoBulkEntries r
def uptoBulkEntry {H : Type} : Lit × DataW H → Nat
  | (.string bytes, d) => bytes.length + uptoBulk d + 1
  | (_, d) => uptoBulk d + 1
 end
def uptoSmall : (H : Type) → List (DataW H) → Bool := fun _ ds => decide (uptoBulkAll ds ≤ 1048576)
def OpenSpec.upto (s : _root_.Go.ChangeSpec) : _root_.Go.OpenSpec := { _root_.Go.OpenSpec.ofChange s with cond := some uptoSmall }

/-- 'laws.FnExactDepthsOf', WHERE WHAT IT READS IS OF BULK AT MOST 1048576: true; the input reads as it did. -/
def fnExactDepthsOfUptoRow : OpenClaim := { program := "ytpbckaimchoplaa", sum := "9ab239de115b3e8a4ec29e7f6ec62a383c435acdb8d3f73bfb9394ce81a19f91", func := "loop.example/g01145/laws.FnExactDepthsOf", spec := "fnExactDepthsOf", inPlace := ["internal/bytealg.IndexByteString"], apart := false, narrowed := true }
def FnExactDepthsOfUptoSaid : Prop := fnExactDepthsOfUptoRow.holds Try.pinned (OpenSpec.upto fnExactDepthsOfSpec)

/-- 'laws.FnPairs', WHERE WHAT IT READS IS OF BULK AT MOST 1048576: true; the input reads as it did. -/
def fnPairsUptoRow : OpenClaim := { program := "ytpbckaimchoplaa", sum := "9ab239de115b3e8a4ec29e7f6ec62a383c435acdb8d3f73bfb9394ce81a19f91", func := "loop.example/g01145/laws.FnPairs", spec := "fnPairs", inPlace := ["internal/bytealg.IndexByteString"], unfollowed := true, recurses := true, apart := false, narrowed := true }
def FnPairsUptoSaid : Prop := fnPairsUptoRow.holds Try.pinned (OpenSpec.upto fnPairsSpec)

/-- 'laws.FnExactIsMatched', WHERE WHAT IT READS IS OF BULK AT MOST 1048576: true; the input reads as it did. -/
def fnExactIsMatchedUptoRow : OpenClaim := { program := "ytpbckaimchoplaa", sum := "9ab239de115b3e8a4ec29e7f6ec62a383c435acdb8d3f73bfb9394ce81a19f91", func := "loop.example/g01145/laws.FnExactIsMatched", spec := "fnExactIsMatched", inPlace := ["internal/bytealg.IndexByteString"], apart := false, narrowed := true }
def FnExactIsMatchedUptoSaid : Prop := fnExactIsMatchedUptoRow.holds Try.pinned (OpenSpec.upto fnExactIsMatchedSpec)

/-- 'laws.FnExactPartnersOf', WHERE WHAT IT READS IS OF BULK AT MOST 1048576: true; the input reads as it did. -/
def fnExactPartnersOfUptoRow : OpenClaim := { program := "ytpbckaimchoplaa", sum := "9ab239de115b3e8a4ec29e7f6ec62a383c435acdb8d3f73bfb9394ce81a19f91", func := "loop.example/g01145/laws.FnExactPartnersOf", spec := "fnExactPartnersOf", inPlace := ["internal/bytealg.IndexByteString"], apart := false, narrowed := true }
def FnExactPartnersOfUptoSaid : Prop := fnExactPartnersOfUptoRow.holds Try.pinned (OpenSpec.upto fnExactPartnersOfSpec)

/-- 'laws.FnExactBodyOf', WHERE WHAT IT READS IS OF BULK AT MOST 1048576: true; the input reads as it did. -/
def fnExactBodyOfUptoRow : OpenClaim := { program := "ytpbckaimchoplaa", sum := "9ab239de115b3e8a4ec29e7f6ec62a383c435acdb8d3f73bfb9394ce81a19f91", func := "loop.example/g01145/laws.FnExactBodyOf", spec := "fnExactBodyOf", inPlace := ["internal/bytealg.IndexByteString"], apart := false, narrowed := true }
def FnExactBodyOfUptoSaid : Prop := fnExactBodyOfUptoRow.holds Try.pinned (OpenSpec.upto fnExactBodyOfSpec)

/-- 'laws.FnExactCutMatched', WHERE WHAT IT READS IS OF BULK AT MOST 1048576: true; the input reads as it did. -/
def fnExactCutMatchedUptoRow : OpenClaim := { program := "ytpbckaimchoplaa", sum := "9ab239de115b3e8a4ec29e7f6ec62a383c435acdb8d3f73bfb9394ce81a19f91", func := "loop.example/g01145/laws.FnExactCutMatched", spec := "fnExactCutMatched", inPlace := ["internal/bytealg.IndexByteString"], apart := false, narrowed := true }
def FnExactCutMatchedUptoSaid : Prop := fnExactCutMatchedUptoRow.holds Try.pinned (OpenSpec.upto fnExactCutMatchedSpec)

/-- 'laws.FnDepths', WHERE WHAT IT READS IS OF BULK AT MOST 1048576: true; the input reads as it did. -/
def fnDepthsUptoRow : OpenClaim := { program := "ytpbckaimchoplaa", sum := "9ab239de115b3e8a4ec29e7f6ec62a383c435acdb8d3f73bfb9394ce81a19f91", func := "loop.example/g01145/laws.FnDepths", spec := "fnDepths", inPlace := ["internal/bytealg.IndexByteString"], apart := false, narrowed := true }
def FnDepthsUptoSaid : Prop := fnDepthsUptoRow.holds Try.pinned (OpenSpec.upto fnDepthsSpec)

/-- 'laws.FnExactParentsOf', WHERE WHAT IT READS IS OF BULK AT MOST 1048576: true; the input reads as it did. -/
def fnExactParentsOfUptoRow : OpenClaim := { program := "ytpbckaimchoplaa", sum := "9ab239de115b3e8a4ec29e7f6ec62a383c435acdb8d3f73bfb9394ce81a19f91", func := "loop.example/g01145/laws.FnExactParentsOf", spec := "fnExactParentsOf", inPlace := ["internal/bytealg.IndexByteString"], apart := false, narrowed := true }
def FnExactParentsOfUptoSaid : Prop := fnExactParentsOfUptoRow.holds Try.pinned (OpenSpec.upto fnExactParentsOfSpec)

/-- 'laws.FnPutAndCut', WHERE WHAT IT READS IS OF BULK AT MOST 1048576: true; the input reads as it did. -/
def fnPutAndCutUptoRow : OpenClaim := { program := "ytpbckaimchoplaa", sum := "9ab239de115b3e8a4ec29e7f6ec62a383c435acdb8d3f73bfb9394ce81a19f91", func := "loop.example/g01145/laws.FnPutAndCut", spec := "fnPutAndCut", inPlace := ["internal/bytealg.IndexByteString", "internal/abi.NoEscape", "internal/bytealg.MakeNoZero"], apart := false, narrowed := true }
def FnPutAndCutUptoSaid : Prop := fnPutAndCutUptoRow.holds Try.pinned (OpenSpec.upto fnPutAndCutSpec)

/-- 'laws.FnExactPutAt', WHERE WHAT IT READS IS OF BULK AT MOST 1048576: true; the input reads as it did. -/
def fnExactPutAtUptoRow : OpenClaim := { program := "ytpbckaimchoplaa", sum := "9ab239de115b3e8a4ec29e7f6ec62a383c435acdb8d3f73bfb9394ce81a19f91", func := "loop.example/g01145/laws.FnExactPutAt", spec := "fnExactPutAt", inPlace := ["internal/bytealg.IndexByteString"], apart := false, narrowed := true }
def FnExactPutAtUptoSaid : Prop := fnExactPutAtUptoRow.holds Try.pinned (OpenSpec.upto fnExactPutAtSpec)

/-- 'laws.FnExactChildrenOf', WHERE WHAT IT READS IS OF BULK AT MOST 1048576: true; the input reads as it did. -/
def fnExactChildrenOfUptoRow : OpenClaim := { program := "ytpbckaimchoplaa", sum := "9ab239de115b3e8a4ec29e7f6ec62a383c435acdb8d3f73bfb9394ce81a19f91", func := "loop.example/g01145/laws.FnExactChildrenOf", spec := "fnExactChildrenOf", inPlace := ["internal/bytealg.IndexByteString"], apart := false, narrowed := true }
def FnExactChildrenOfUptoSaid : Prop := fnExactChildrenOfUptoRow.holds Try.pinned (OpenSpec.upto fnExactChildrenOfSpec)

/-- 'laws.FnExactPassesTest', WHERE WHAT IT READS IS OF BULK AT MOST 1048576: true; the input reads as it did. -/
def fnExactPassesTestUptoRow : OpenClaim := { program := "ytpbckaimchoplaa", sum := "9ab239de115b3e8a4ec29e7f6ec62a383c435acdb8d3f73bfb9394ce81a19f91", func := "loop.example/g01145/laws.FnExactPassesTest", spec := "fnExactPassesTest", inPlace := ["internal/bytealg.IndexByteString", "internal/bytealg.IndexString"], named := ["internal/bytealg.MaxLen"], apart := false, narrowed := true }
def FnExactPassesTestUptoSaid : Prop := fnExactPassesTestUptoRow.holds Try.pinned (OpenSpec.upto fnExactPassesTestSpec)

end Rows
end Go.Proofs.Ytpbckaimchoplaa
