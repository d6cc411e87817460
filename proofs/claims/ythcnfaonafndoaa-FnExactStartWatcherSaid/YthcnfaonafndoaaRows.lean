/-
  No cell of these rows narrows 'for every input' (looked for: loops, veiled, ifaces, maps, wideKeys, modest, calm, conditions, laid).
  DERIVED. THE GIVEN ROWS OF THIS SEAT. 2 by the template 'for every input the law returns true; each argument reads behind the call as it read before'; 0 by the template 'total and deterministic' (their statements: YthcnfaonafndoaaTotals.lean).
  GIVEN WITH THE SEED: the statements are not yours to turn. If you find one false, say at which input.
  Laid BY PROGRAM, IN A SANDBOX (cutbox-rows.mjs): the forced cells as the released guide's own fill.sh prints them over the translation 776d92318c270445… (all of the seat's roots in one cut). By AI agents, Wed Nov 11 2026. No macro, syntax, notation, axiom, sorry.
-/
import Derived.Test.YthcnfaonafndoaaChecked
import GoSem.Claim
import GoSem.ClaimJoined
import GoSem.ClaimMapViews
import Derived.JoinedTies
import Derived.KernelRfl
namespace Go.Proofs.Ythcnfaonafndoaa
/- THE CELL 'sum', in the pinned program and in every row, IS THE sha256 OF THE DUMP (.gsa) THAT YthcnfaonafndoaaProg.lean LOADS. Nothing in Lean hashes anything: it is a label: what it is worth is what the hold of that sum in a sandbox is worth. -/
noncomputable def Try.pinned : Pinned := { name := "ythcnfaonafndoaa", sum := "776d92318c2704451b1897f79ac7f920bd313a070734df79ff54329ccc05359f", checked := Try.checked }
namespace Rows
def none {H : Type} : Left H := { results := [], args := [] }

/-- 'laws.FnExactMemoryOf': WHATEVER THE INPUT: true; the input reads as it did. -/
def fnExactMemoryOfSpec : ChangeSpec := { name := "fnExactMemoryOf", fn := fun _ => fun
  | [d1, d2] => { results := [.lit (.bool true)], args := [d1, d2] }
  | _ => none }
def fnExactMemoryOfRow : OpenClaim := { program := "ythcnfaonafndoaa", sum := "776d92318c2704451b1897f79ac7f920bd313a070734df79ff54329ccc05359f", func := "loop.example/g01145/laws.FnExactMemoryOf", spec := "fnExactMemoryOf", inPlace := ["internal/bytealg.IndexByteString", "internal/bytealg.IndexString"], unfollowed := true, recurses := true, named := ["internal/bytealg.MaxLen"], apart := false }
def FnExactMemoryOfSaid : Prop := fnExactMemoryOfRow.holds Try.pinned (OpenSpec.ofChange fnExactMemoryOfSpec)

/-- ITS FALSE NEIGHBOUR: 'it returns false'. Refute it at one input. -/
def fnExactMemoryOfWrong : ChangeSpec := { name := "fnExactMemoryOf", fn := fun _ => fun
  | [d1, d2] => { results := [.lit (.bool false)], args := [d1, d2] }
  | _ => none }
def FnExactMemoryOfWrongFalsely : Prop := fnExactMemoryOfRow.holds Try.pinned (OpenSpec.ofChange fnExactMemoryOfWrong)

/-- 'laws.FnExactStartWatcher': WHATEVER THE INPUT: true; the input reads as it did. -/
def fnExactStartWatcherSpec : ChangeSpec := { name := "fnExactStartWatcher", fn := fun _ => fun
  | [d] => { results := [.lit (.bool true)], args := [d] }
  | _ => none }
def fnExactStartWatcherRow : OpenClaim := { program := "ythcnfaonafndoaa", sum := "776d92318c2704451b1897f79ac7f920bd313a070734df79ff54329ccc05359f", func := "loop.example/g01145/laws.FnExactStartWatcher", spec := "fnExactStartWatcher", inPlace := ["internal/bytealg.IndexByteString", "internal/bytealg.IndexString"], unfollowed := true, recurses := true, named := ["internal/bytealg.MaxLen"], apart := false }
def FnExactStartWatcherSaid : Prop := fnExactStartWatcherRow.holds Try.pinned (OpenSpec.ofChange fnExactStartWatcherSpec)

/-- ITS FALSE NEIGHBOUR: 'it returns false'. Refute it at one input. -/
def fnExactStartWatcherWrong : ChangeSpec := { name := "fnExactStartWatcher", fn := fun _ => fun
  | [d] => { results := [.lit (.bool false)], args := [d] }
  | _ => none }
def FnExactStartWatcherWrongFalsely : Prop := fnExactStartWatcherRow.holds Try.pinned (OpenSpec.ofChange fnExactStartWatcherWrong)

/- THE SECOND FORM. 'bulk': how many values and letters a reading holds, each counted each time it is reached (what is shared counts as often as it is met; a slice's spare places count too). A statement '..UptoSaid' is the law's where the arguments, and the package variables that the reading takes, are together of bulk at most 1048576: NARROWER than '..Said'. Prove '..Said' where nothing that the law and all that it calls make is longer than what came in: it says more and counts as full. Else prove '..UptoSaid'. A law counts once. -/
mutual
def uptoBulk {H : Type} : DataW H → Nat
  | .lit (.string bytes) => bytes.length + 1
  | .lit _ => 1
  | .nil => 1
  | .ptr d => uptoBulk d + 1
  | .slice elems spare => uptoBulkAll elems + uptoBulkAll spare + 1
  | .agg parts => uptoBulkAll parts + 1
  | .iface _ d => uptoBulk d + 1
  | .map entries => uptoBulkEntries entries + 1
  | .held _ => 1
def uptoBulkAll {H : Type} : List (DataW H) → Nat
  | [] => 0
  | d :: r => uptoBulk d + uptoBulkAll r
def uptoBulkEntries {H : Type} : List (Lit × DataW H) → Nat
  | [] => 0
  | x :: r => uptoBulkEntry x + uptoBulkEntries r
def uptoBulkEntry {H : Type} : Lit × DataW H → Nat
  | (.string bytes, d) => bytes.length + uptoBulk d + 1
  | (_, d) => uptoBulk d + 1
 end
def uptoSmall : (H : Type) → List (DataW H) → Bool := fun _ ds => decide (uptoBulkAll ds ≤ 1048576)
def OpenSpec.upto (s : _root_.Go.ChangeSpec) : _root_.Go.OpenSpec := { _root_.Go.OpenSpec.ofChange s with cond := some uptoSmall }

/-- 'laws.FnExactMemoryOf', WHERE WHAT IT READS IS OF BULK AT MOST 1048576: true; the input reads as it did. -/
def fnExactMemoryOfUptoRow : OpenClaim := { program := "ythcnfaonafndoaa", sum := "776d92318c2704451b1897f79ac7f920bd313a070734df79ff54329ccc05359f", func := "loop.example/g01145/laws.FnExactMemoryOf", spec := "fnExactMemoryOf", inPlace := ["internal/bytealg.IndexByteString", "internal/bytealg.IndexString"], unfollowed := true, recurses := true, named := ["internal/bytealg.MaxLen"], apart := false, narrowed := true }
def FnExactMemoryOfUptoSaid : Prop := fnExactMemoryOfUptoRow.holds Try.pinned (OpenSpec.upto fnExactMemoryOfSpec)

/-- 'laws.FnExactStartWatcher', WHERE WHAT IT READS IS OF BULK AT MOST 1048576: true; the input reads as it did. -/
def fnExactStartWatcherUptoRow : OpenClaim := { program := "ythcnfaonafndoaa", sum := "776d92318c2704451b1897f79ac7f920bd313a070734df79ff54329ccc05359f", func := "loop.example/g01145/laws.FnExactStartWatcher", spec := "fnExactStartWatcher", inPlace := ["internal/bytealg.IndexByteString", "internal/bytealg.IndexString"], unfollowed := true, recurses := true, named := ["internal/bytealg.MaxLen"], apart := false, narrowed := true }
def FnExactStartWatcherUptoSaid : Prop := fnExactStartWatcherUptoRow.holds Try.pinned (OpenSpec.upto fnExactStartWatcherSpec)

end Rows
end Go.Proofs.Ythcnfaonafndoaa
