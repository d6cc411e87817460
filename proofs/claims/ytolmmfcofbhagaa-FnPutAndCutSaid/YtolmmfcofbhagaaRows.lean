/-
  No cell of these rows narrows 'for every input' (looked for: loops, veiled, ifaces, maps, wideKeys, modest, calm, conditions, laid).
  DERIVED. THE GIVEN ROWS OF THIS SEAT. 6 by the template 'for every input the law returns true; each argument reads behind the call as it read before'; 0 by the template 'total and deterministic' (their statements: YtolmmfcofbhagaaTotals.lean).
  GIVEN WITH THE SEED: the statements are not yours to turn. If you find one false, say at which input.
  Laid BY PROGRAM, IN A SANDBOX (cutbox-rows.mjs): the forced cells as the released guide's own fill.sh prints them over the translation 299bc6505f2f828f… (all of the seat's roots in one cut). By AI agents, Wed Nov 11 2026. No macro, syntax, notation, axiom, sorry.
-/
import Derived.Test.YtolmmfcofbhagaaChecked
import GoSem.Claim
import GoSem.ClaimJoined
import GoSem.ClaimMapViews
import Derived.JoinedTies
import Derived.KernelRfl
namespace Go.Proofs.Ytolmmfcofbhagaa
/- THE CELL 'sum', in the pinned program and in every row, IS THE sha256 OF THE DUMP (.gsa) THAT YtolmmfcofbhagaaProg.lean LOADS. Nothing in Lean hashes anything: it is a label: what it is worth is what the hold of that sum in a sandbox is worth. -/
noncomputable def Try.pinned : Pinned := { name := "ytolmmfcofbhagaa", sum := "299bc6505f2f828fe967d51d3e997807b684edebda33342db32043ddd3d5e7b4", checked := Try.checked }
namespace Rows
def none {H : Type} : Left H := { results := [], args := [] }

/-- 'laws.FnPutAndCut': WHATEVER THE INPUT: true; the input reads as it did. -/
def fnPutAndCutSpec : ChangeSpec := { name := "fnPutAndCut", fn := fun _ => fun
  | [d1, d2] => { results := [.lit (.bool true)], args := [d1, d2] }
  | _ => none }
def fnPutAndCutRow : OpenClaim := { program := "ytolmmfcofbhagaa", sum := "299bc6505f2f828fe967d51d3e997807b684edebda33342db32043ddd3d5e7b4", func := "loop.example/g01145/laws.FnPutAndCut", spec := "fnPutAndCut", inPlace := ["internal/bytealg.IndexByteString", "internal/abi.NoEscape", "internal/bytealg.MakeNoZero"], apart := false }
def FnPutAndCutSaid : Prop := fnPutAndCutRow.holds Try.pinned (OpenSpec.ofChange fnPutAndCutSpec)

/-- ITS FALSE NEIGHBOUR: 'it returns false'. Refute it at one input. -/
def fnPutAndCutWrong : ChangeSpec := { name := "fnPutAndCut", fn := fun _ => fun
  | [d1, d2] => { results := [.lit (.bool false)], args := [d1, d2] }
  | _ => none }
def FnPutAndCutWrongFalsely : Prop := fnPutAndCutRow.holds Try.pinned (OpenSpec.ofChange fnPutAndCutWrong)

/-- 'laws.FnExactSameWatcher': WHATEVER THE INPUT: true; the input reads as it did. -/
def fnExactSameWatcherSpec : ChangeSpec := { name := "fnExactSameWatcher", fn := fun _ => fun
  | [d1, d2] => { results := [.lit (.bool true)], args := [d1, d2] }
  | _ => none }
def fnExactSameWatcherRow : OpenClaim := { program := "ytolmmfcofbhagaa", sum := "299bc6505f2f828fe967d51d3e997807b684edebda33342db32043ddd3d5e7b4", func := "loop.example/g01145/laws.FnExactSameWatcher", spec := "fnExactSameWatcher", unfollowed := true, recurses := true, apart := false }
def FnExactSameWatcherSaid : Prop := fnExactSameWatcherRow.holds Try.pinned (OpenSpec.ofChange fnExactSameWatcherSpec)

/-- ITS FALSE NEIGHBOUR: 'it returns false'. Refute it at one input. -/
def fnExactSameWatcherWrong : ChangeSpec := { name := "fnExactSameWatcher", fn := fun _ => fun
  | [d1, d2] => { results := [.lit (.bool false)], args := [d1, d2] }
  | _ => none }
def FnExactSameWatcherWrongFalsely : Prop := fnExactSameWatcherRow.holds Try.pinned (OpenSpec.ofChange fnExactSameWatcherWrong)

/-- 'laws.FnExactCompleteWord': WHATEVER THE INPUT: true; the input reads as it did. -/
def fnExactCompleteWordSpec : ChangeSpec := { name := "fnExactCompleteWord", fn := fun _ => fun
  | [d] => { results := [.lit (.bool true)], args := [d] }
  | _ => none }
def fnExactCompleteWordRow : OpenClaim := { program := "ytolmmfcofbhagaa", sum := "299bc6505f2f828fe967d51d3e997807b684edebda33342db32043ddd3d5e7b4", func := "loop.example/g01145/laws.FnExactCompleteWord", spec := "fnExactCompleteWord", inPlace := ["internal/bytealg.IndexByteString", "internal/abi.NoEscape", "internal/bytealg.MakeNoZero"], apart := false }
def FnExactCompleteWordSaid : Prop := fnExactCompleteWordRow.holds Try.pinned (OpenSpec.ofChange fnExactCompleteWordSpec)

/-- ITS FALSE NEIGHBOUR: 'it returns false'. Refute it at one input. -/
def fnExactCompleteWordWrong : ChangeSpec := { name := "fnExactCompleteWord", fn := fun _ => fun
  | [d] => { results := [.lit (.bool false)], args := [d] }
  | _ => none }
def FnExactCompleteWordWrongFalsely : Prop := fnExactCompleteWordRow.holds Try.pinned (OpenSpec.ofChange fnExactCompleteWordWrong)

/-- 'laws.FnExactValidChecker': WHATEVER THE INPUT: true; the input reads as it did. -/
def fnExactValidCheckerSpec : ChangeSpec := { name := "fnExactValidChecker", fn := fun _ => fun
  | [d] => { results := [.lit (.bool true)], args := [d] }
  | _ => none }
def fnExactValidCheckerRow : OpenClaim := { program := "ytolmmfcofbhagaa", sum := "299bc6505f2f828fe967d51d3e997807b684edebda33342db32043ddd3d5e7b4", func := "loop.example/g01145/laws.FnExactValidChecker", spec := "fnExactValidChecker", unfollowed := true, recurses := true, apart := false }
def FnExactValidCheckerSaid : Prop := fnExactValidCheckerRow.holds Try.pinned (OpenSpec.ofChange fnExactValidCheckerSpec)

/-- ITS FALSE NEIGHBOUR: 'it returns false'. Refute it at one input. -/
def fnExactValidCheckerWrong : ChangeSpec := { name := "fnExactValidChecker", fn := fun _ => fun
  | [d] => { results := [.lit (.bool false)], args := [d] }
  | _ => none }
def FnExactValidCheckerWrongFalsely : Prop := fnExactValidCheckerRow.holds Try.pinned (OpenSpec.ofChange fnExactValidCheckerWrong)

/-- 'laws.FnExactValidWatcher': WHATEVER THE INPUT: true; the input reads as it did. -/
def fnExactValidWatcherSpec : ChangeSpec := { name := "fnExactValidWatcher", fn := fun _ => fun
  | [d] => { results := [.lit (.bool true)], args := [d] }
  | _ => none }
def fnExactValidWatcherRow : OpenClaim := { program := "ytolmmfcofbhagaa", sum := "299bc6505f2f828fe967d51d3e997807b684edebda33342db32043ddd3d5e7b4", func := "loop.example/g01145/laws.FnExactValidWatcher", spec := "fnExactValidWatcher", inPlace := ["internal/bytealg.IndexByteString", "internal/bytealg.IndexString"], unfollowed := true, recurses := true, named := ["internal/bytealg.MaxLen"], apart := false }
def FnExactValidWatcherSaid : Prop := fnExactValidWatcherRow.holds Try.pinned (OpenSpec.ofChange fnExactValidWatcherSpec)

/-- ITS FALSE NEIGHBOUR: 'it returns false'. Refute it at one input. -/
def fnExactValidWatcherWrong : ChangeSpec := { name := "fnExactValidWatcher", fn := fun _ => fun
  | [d] => { results := [.lit (.bool false)], args := [d] }
  | _ => none }
def FnExactValidWatcherWrongFalsely : Prop := fnExactValidWatcherRow.holds Try.pinned (OpenSpec.ofChange fnExactValidWatcherWrong)

/-- 'laws.FnExactSameChoices': WHATEVER THE INPUT: true; the input reads as it did. -/
def fnExactSameChoicesSpec : ChangeSpec := { name := "fnExactSameChoices", fn := fun _ => fun
  | [d1, d2] => { results := [.lit (.bool true)], args := [d1, d2] }
  | _ => none }
def fnExactSameChoicesRow : OpenClaim := { program := "ytolmmfcofbhagaa", sum := "299bc6505f2f828fe967d51d3e997807b684edebda33342db32043ddd3d5e7b4", func := "loop.example/g01145/laws.FnExactSameChoices", spec := "fnExactSameChoices", unfollowed := true, recurses := true, apart := false }
def FnExactSameChoicesSaid : Prop := fnExactSameChoicesRow.holds Try.pinned (OpenSpec.ofChange fnExactSameChoicesSpec)

/-- ITS FALSE NEIGHBOUR: 'it returns false'. Refute it at one input. -/
def fnExactSameChoicesWrong : ChangeSpec := { name := "fnExactSameChoices", fn := fun _ => fun
  | [d1, d2] => { results := [.lit (.bool false)], args := [d1, d2] }
  | _ => none }
def FnExactSameChoicesWrongFalsely : Prop := fnExactSameChoicesRow.holds Try.pinned (OpenSpec.ofChange fnExactSameChoicesWrong)

/- THE SECOND FORM. 'bulk': how many values and letters a reading holds, each counted each time it is reached (what is shared counts as often as it is met; a slice's spare places count too). A statement '..UptoSaid' is the law's where the arguments, and the package variables that the reading takes, are together of bulk at most 1048576: NARROWER than '..Said'. Prove '..Said' where nothing that the law and all that it calls make is longer than what came in: it says more and counts as full. Else prove '..UptoSaid'. A law counts once. -/
mutual
def uptoBulk {H : Type} : DataW H → Nat
  | .lit (.string bytes) => bytes.length + 1
  | .lit _ => 1
  | .nil => 1
  | .ptr d => uptoBulk d + 1
  | .slice elems spare => uptoBulkAll elems + uptoBulkAll spare + 1
  | .agg parts => uptoBulkAll parts + 1
  | .iface _ d => uptoBulk d + 1
  | .map entries => uptoBulkEntries entries + 1
  | .held _ => 1
def uptoBulkAll {H : Type} : List (DataW H) → Nat
  | [] => 0
  | d :: r => uptoBulk d + uptoBulkAll r
def uptoBulkEntries {H : Type} : List (Lit × DataW H) → Nat
  | [] => 0
  | x :: r => uptoBulkEntry x + uptoBulkEntries r
def uptoBulkEntry {H : Type} : Lit × DataW H → Nat
  | (.string bytes, d) => bytes.length + uptoBulk d + 1
  | (_, d) => uptoBulk d + 1
 end
def uptoSmall : (H : Type) → List (DataW H) → Bool := fun _ ds => decide (uptoBulkAll ds ≤ 1048576)
def OpenSpec.upto (s : _root_.Go.ChangeSpec) : _root_.Go.OpenSpec := { _root_.Go.OpenSpec.ofChange s with cond := some uptoSmall }

/-- 'laws.FnPutAndCut', WHERE WHAT IT READS IS OF BULK AT MOST 1048576: true; the input reads as it did. -/
def fnPutAndCutUptoRow : OpenClaim := { program := "ytolmmfcofbhagaa", sum := "299bc6505f2f828fe967d51d3e997807b684edebda33342db32043ddd3d5e7b4", func := "loop.example/g01145/laws.FnPutAndCut", spec := "fnPutAndCut", inPlace := ["internal/bytealg.IndexByteString", "internal/abi.NoEscape", "internal/bytealg.MakeNoZero"], apart := false, narrowed := true }
def FnPutAndCutUptoSaid : Prop := fnPutAndCutUptoRow.holds Try.pinned (OpenSpec.upto fnPutAndCutSpec)

/-- 'laws.FnExactSameWatcher', WHERE WHAT IT READS IS OF BULK AT MOST 1048576: true; the input reads as it did. -/
def fnExactSameWatcherUptoRow : OpenClaim := { program := "ytolmmfcofbhagaa", sum := "299bc6505f2f828fe967d51d3e997807b684edebda33342db32043ddd3d5e7b4", func := "loop.example/g01145/laws.FnExactSameWatcher", spec := "fnExactSameWatcher", unfollowed := true, recurses := true, apart := false, narrowed := true }
def FnExactSameWatcherUptoSaid : Prop := fnExactSameWatcherUptoRow.holds Try.pinned (OpenSpec.upto fnExactSameWatcherSpec)

/-- 'laws.FnExactCompleteWord', WHERE WHAT IT READS IS OF BULK AT MOST 1048576: true; the input reads as it did. -/
def fnExactCompleteWordUptoRow : OpenClaim := { program := "ytolmmfcofbhagaa", sum := "299bc6505f2f828fe967d51d3e997807b684edebda33342db32043ddd3d5e7b4", func := "loop.example/g01145/laws.FnExactCompleteWord", spec := "fnExactCompleteWord", inPlace := ["internal/bytealg.IndexByteString", "internal/abi.NoEscape", "internal/bytealg.MakeNoZero"], apart := false, narrowed := true }
def FnExactCompleteWordUptoSaid : Prop := fnExactCompleteWordUptoRow.holds Try.pinned (OpenSpec.upto fnExactCompleteWordSpec)

/-- 'laws.FnExactValidChecker', WHERE WHAT IT READS IS OF BULK AT MOST 1048576: true; the input reads as it did. -/
def fnExactValidCheckerUptoRow : OpenClaim := { program := "ytolmmfcofbhagaa", sum := "299bc6505f2f828fe967d51d3e997807b684edebda33342db32043ddd3d5e7b4", func := "loop.example/g01145/laws.FnExactValidChecker", spec := "fnExactValidChecker", unfollowed := true, recurses := true, apart := false, narrowed := true }
def FnExactValidCheckerUptoSaid : Prop := fnExactValidCheckerUptoRow.holds Try.pinned (OpenSpec.upto fnExactValidCheckerSpec)

/-- 'laws.FnExactValidWatcher', WHERE WHAT IT READS IS OF BULK AT MOST 1048576: true; the input reads as it did. -/
def fnExactValidWatcherUptoRow : OpenClaim := { program := "ytolmmfcofbhagaa", sum := "299bc6505f2f828fe967d51d3e997807b684edebda33342db32043ddd3d5e7b4", func := "loop.example/g01145/laws.FnExactValidWatcher", spec := "fnExactValidWatcher", inPlace := ["internal/bytealg.IndexByteString", "internal/bytealg.IndexString"], unfollowed := true, recurses := true, named := ["internal/bytealg.MaxLen"], apart := false, narrowed := true }
def FnExactValidWatcherUptoSaid : Prop := fnExactValidWatcherUptoRow.holds Try.pinned (OpenSpec.upto fnExactValidWatcherSpec)

/-- 'laws.FnExactSameChoices', WHERE WHAT IT READS IS OF BULK AT MOST 1048576: true; the input reads as it did. -/
def fnExactSameChoicesUptoRow : OpenClaim := { program := "ytolmmfcofbhagaa", sum := "299bc6505f2f828fe967d51d3e997807b684edebda33342db32043ddd3d5e7b4", func := "loop.example/g01145/laws.FnExactSameChoices", spec := "fnExactSameChoices", unfollowed := true, recurses := true, apart := false, narrowed := true }
def FnExactSameChoicesUptoSaid : Prop := fnExactSameChoicesUptoRow.holds Try.pinned (OpenSpec.upto fnExactSameChoicesSpec)

end Rows
end Go.Proofs.Ytolmmfcofbhagaa
