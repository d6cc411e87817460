/-
  No cell of these rows narrows 'for every input' (looked for: loops, veiled, ifaces, maps, wideKeys, modest, calm, conditions, laid).
  DERIVED. THE GIVEN ROWS OF THIS SEAT. 5 by the template 'for every input the law returns true; each argument reads behind the call as it read before'; 0 by the template 'total and deterministic' (their statements: YthhmkkclmopkhaaTotals.lean).
  GIVEN WITH THE SEED: the statements are not yours to turn. If you find one false, say at which input.
  Laid BY PROGRAM, IN A SANDBOX (cutbox-rows.mjs): the forced cells as the released guide's own fill.sh prints them over the translation c1b137076725a300… (all of the seat's roots in one cut). By AI agents, Wed Nov 11 2026. No macro, syntax, notation, axiom, sorry.
-/
import Derived.Test.YthhmkkclmopkhaaChecked
import GoSem.Claim
import GoSem.ClaimJoined
import GoSem.ClaimMapViews
import Derived.JoinedTies
import Derived.KernelRfl
namespace Go.Proofs.Ythhmkkclmopkhaa
/- THE CELL 'sum', in the pinned program and in every row, IS THE sha256 OF THE DUMP (.gsa) THAT YthhmkkclmopkhaaProg.lean LOADS. Nothing in Lean hashes anything: it is a label: what it is worth is what the hold of that sum in a sandbox is worth. -/
noncomputable def Try.pinned : Pinned := { name := "ythhmkkclmopkhaa", sum := "c1b137076725a30097a86ef4a05b0e27ffd225580041261ab83963157f5afb78", checked := Try.checked }
namespace Rows
def none {H : Type} : Left H := { results := [], args := [] }

/-- 'laws.FnExactCountMatched': WHATEVER THE INPUT: true; the input reads as it did. -/
def fnExactCountMatchedSpec : ChangeSpec := { name := "fnExactCountMatched", fn := fun _ => fun
  | [d] => { results := [.lit (.bool true)], args := [d] }
  | _ => none }
def fnExactCountMatchedRow : OpenClaim := { program := "ythhmkkclmopkhaa", sum := "c1b137076725a30097a86ef4a05b0e27ffd225580041261ab83963157f5afb78", func := "loop.example/g01145/laws.FnExactCountMatched", spec := "fnExactCountMatched", apart := false }
def FnExactCountMatchedSaid : Prop := fnExactCountMatchedRow.holds Try.pinned (OpenSpec.ofChange fnExactCountMatchedSpec)

/-- ITS FALSE NEIGHBOUR: 'it returns false'. Refute it at one input. -/
def fnExactCountMatchedWrong : ChangeSpec := { name := "fnExactCountMatched", fn := fun _ => fun
  | [d] => { results := [.lit (.bool false)], args := [d] }
  | _ => none }
def FnExactCountMatchedWrongFalsely : Prop := fnExactCountMatchedRow.holds Try.pinned (OpenSpec.ofChange fnExactCountMatchedWrong)

/-- 'laws.FnExactTurnWord': WHATEVER THE INPUT: true; the input reads as it did. -/
def fnExactTurnWordSpec : ChangeSpec := { name := "fnExactTurnWord", fn := fun _ => fun
  | [d] => { results := [.lit (.bool true)], args := [d] }
  | _ => none }
def fnExactTurnWordRow : OpenClaim := { program := "ythhmkkclmopkhaa", sum := "c1b137076725a30097a86ef4a05b0e27ffd225580041261ab83963157f5afb78", func := "loop.example/g01145/laws.FnExactTurnWord", spec := "fnExactTurnWord", inPlace := ["internal/bytealg.IndexByteString"], apart := false }
def FnExactTurnWordSaid : Prop := fnExactTurnWordRow.holds Try.pinned (OpenSpec.ofChange fnExactTurnWordSpec)

/-- ITS FALSE NEIGHBOUR: 'it returns false'. Refute it at one input. -/
def fnExactTurnWordWrong : ChangeSpec := { name := "fnExactTurnWord", fn := fun _ => fun
  | [d] => { results := [.lit (.bool false)], args := [d] }
  | _ => none }
def FnExactTurnWordWrongFalsely : Prop := fnExactTurnWordRow.holds Try.pinned (OpenSpec.ofChange fnExactTurnWordWrong)

/-- 'laws.FnExactMatchedAt': WHATEVER THE INPUT: true; the input reads as it did. -/
def fnExactMatchedAtSpec : ChangeSpec := { name := "fnExactMatchedAt", fn := fun _ => fun
  | [d1, d2] => { results := [.lit (.bool true)], args := [d1, d2] }
  | _ => none }
def fnExactMatchedAtRow : OpenClaim := { program := "ythhmkkclmopkhaa", sum := "c1b137076725a30097a86ef4a05b0e27ffd225580041261ab83963157f5afb78", func := "loop.example/g01145/laws.FnExactMatchedAt", spec := "fnExactMatchedAt", apart := false }
def FnExactMatchedAtSaid : Prop := fnExactMatchedAtRow.holds Try.pinned (OpenSpec.ofChange fnExactMatchedAtSpec)

/-- ITS FALSE NEIGHBOUR: 'it returns false'. Refute it at one input. -/
def fnExactMatchedAtWrong : ChangeSpec := { name := "fnExactMatchedAt", fn := fun _ => fun
  | [d1, d2] => { results := [.lit (.bool false)], args := [d1, d2] }
  | _ => none }
def FnExactMatchedAtWrongFalsely : Prop := fnExactMatchedAtRow.holds Try.pinned (OpenSpec.ofChange fnExactMatchedAtWrong)

/-- 'laws.FnMatching': WHATEVER THE INPUT: true; the input reads as it did. -/
def fnMatchingSpec : ChangeSpec := { name := "fnMatching", fn := fun _ => fun
  | [d1, d2] => { results := [.lit (.bool true)], args := [d1, d2] }
  | _ => none }
def fnMatchingRow : OpenClaim := { program := "ythhmkkclmopkhaa", sum := "c1b137076725a30097a86ef4a05b0e27ffd225580041261ab83963157f5afb78", func := "loop.example/g01145/laws.FnMatching", spec := "fnMatching", inPlace := ["internal/bytealg.IndexByteString"], apart := false }
def FnMatchingSaid : Prop := fnMatchingRow.holds Try.pinned (OpenSpec.ofChange fnMatchingSpec)

/-- ITS FALSE NEIGHBOUR: 'it returns false'. Refute it at one input. -/
def fnMatchingWrong : ChangeSpec := { name := "fnMatching", fn := fun _ => fun
  | [d1, d2] => { results := [.lit (.bool false)], args := [d1, d2] }
  | _ => none }
def FnMatchingWrongFalsely : Prop := fnMatchingRow.holds Try.pinned (OpenSpec.ofChange fnMatchingWrong)

/-- 'laws.FnExactRankMatched': WHATEVER THE INPUT: true; the input reads as it did. -/
def fnExactRankMatchedSpec : ChangeSpec := { name := "fnExactRankMatched", fn := fun _ => fun
  | [d] => { results := [.lit (.bool true)], args := [d] }
  | _ => none }
def fnExactRankMatchedRow : OpenClaim := { program := "ythhmkkclmopkhaa", sum := "c1b137076725a30097a86ef4a05b0e27ffd225580041261ab83963157f5afb78", func := "loop.example/g01145/laws.FnExactRankMatched", spec := "fnExactRankMatched", inPlace := ["internal/bytealg.IndexByteString"], apart := false }
def FnExactRankMatchedSaid : Prop := fnExactRankMatchedRow.holds Try.pinned (OpenSpec.ofChange fnExactRankMatchedSpec)

/-- ITS FALSE NEIGHBOUR: 'it returns false'. Refute it at one input. -/
def fnExactRankMatchedWrong : ChangeSpec := { name := "fnExactRankMatched", fn := fun _ => fun
  | [d] => { results := [.lit (.bool false)], args := [d] }
  | _ => none }
def FnExactRankMatchedWrongFalsely : Prop := fnExactRankMatchedRow.holds Try.pinned (OpenSpec.ofChange fnExactRankMatchedWrong)

/- THE SECOND FORM. 'bulk': how many values and letters a reading holds, each counted each time it is reached (what is shared counts as often as it is met; a slice's spare places count too). A statement '..UptoSaid' is the law's where the arguments, and the package variables that the reading takes, are together of bulk at most 1048576: NARROWER than '..Said'. Prove '..Said' where nothing that the law and all that it calls make is longer than what came in: it says more and counts as full. Else prove '..UptoSaid'. A law counts once. -/
mutual
def uptoBulk {H : Type} : DataW H → Nat
  | .lit (.string bytes) => bytes.length + 1
  | .lit _ => 1
  | .nil => 1
  | .ptr d => uptoBulk d + 1
  | .slice elems spare => uptoBulkAll elems + uptoBulkAll spare + 1
  | .agg parts => uptoBulkAll parts + 1
  | .iface _ d => uptoBulk d + 1
  | .map entries => uptoBulkEntries entries + 1
  | .held _ => 1
def uptoBulkAll {H : Type} : List (DataW H) → Nat
  | [] => 0
  | d :: r => uptoBulk d + uptoBulkAll r
def uptoBulkEntries {H : Type} : List (Lit × DataW H) → Nat
  | [] => 0
  | x :: r => uptoBulkEntry x + uptoBulkEntries r
def uptoBulkEntry {H : Type} : Lit × DataW H → Nat
  | (.string bytes, d) => bytes.length + uptoBulk d + 1
  | (_, d) => uptoBulk d + 1
 end
def uptoSmall : (H : Type) → List (DataW H) → Bool := fun _ ds => decide (uptoBulkAll ds ≤ 1048576)
def OpenSpec.upto (s : _root_.Go.ChangeSpec) : _root_.Go.OpenSpec := { _root_.Go.OpenSpec.ofChange s with cond := some uptoSmall }

/-- 'laws.FnExactCountMatched', WHERE WHAT IT READS IS OF BULK AT MOST 1048576: true; the input reads as it did. -/
def fnExactCountMatchedUptoRow : OpenClaim := { program := "ythhmkkclmopkhaa", sum := "c1b137076725a30097a86ef4a05b0e27ffd225580041261ab83963157f5afb78", func := "loop.example/g01145/laws.FnExactCountMatched", spec := "fnExactCountMatched", apart := false, narrowed := true }
def FnExactCountMatchedUptoSaid : Prop := fnExactCountMatchedUptoRow.holds Try.pinned (OpenSpec.upto fnExactCountMatchedSpec)

/-- 'laws.FnExactTurnWord', WHERE WHAT IT READS IS OF BULK AT MOST 1048576: true; the input reads as it did. -/
def fnExactTurnWordUptoRow : OpenClaim := { program := "ythhmkkclmopkhaa", sum := "c1b137076725a30097a86ef4a05b0e27ffd225580041261ab83963157f5afb78", func := "loop.example/g01145/laws.FnExactTurnWord", spec := "fnExactTurnWord", inPlace := ["internal/bytealg.IndexByteString"], apart := false, narrowed := true }
def FnExactTurnWordUptoSaid : Prop := fnExactTurnWordUptoRow.holds Try.pinned (OpenSpec.upto fnExactTurnWordSpec)

/-- 'laws.FnExactMatchedAt', WHERE WHAT IT READS IS OF BULK AT MOST 1048576: true; the input reads as it did. -/
def fnExactMatchedAtUptoRow : OpenClaim := { program := "ythhmkkclmopkhaa", sum := "c1b137076725a30097a86ef4a05b0e27ffd225580041261ab83963157f5afb78", func := "loop.example/g01145/laws.FnExactMatchedAt", spec := "fnExactMatchedAt", apart := false, narrowed := true }
def FnExactMatchedAtUptoSaid : Prop := fnExactMatchedAtUptoRow.holds Try.pinned (OpenSpec.upto fnExactMatchedAtSpec)

/-- 'laws.FnMatching', WHERE WHAT IT READS IS OF BULK AT MOST 1048576: true; the input reads as it did. -/
def fnMatchingUptoRow : OpenClaim := { program := "ythhmkkclmopkhaa", sum := "c1b137076725a30097a86ef4a05b0e27ffd225580041261ab83963157f5afb78", func := "loop.example/g01145/laws.FnMatching", spec := "fnMatching", inPlace := ["internal/bytealg.IndexByteString"], apart := false, narrowed := true }
def FnMatchingUptoSaid : Prop := fnMatchingUptoRow.holds Try.pinned (OpenSpec.upto fnMatchingSpec)

/-- 'laws.FnExactRankMatched', WHERE WHAT IT READS IS OF BULK AT MOST 1048576: true; the input reads as it did. -/
def fnExactRankMatchedUptoRow : OpenClaim := { program := "ythhmkkclmopkhaa", sum := "c1b137076725a30097a86ef4a05b0e27ffd225580041261ab83963157f5afb78", func := "loop.example/g01145/laws.FnExactRankMatched", spec := "fnExactRankMatched", inPlace := ["internal/bytealg.IndexByteString"], apart := false, narrowed := true }
def FnExactRankMatchedUptoSaid : Prop := fnExactRankMatchedUptoRow.holds Try.pinned (OpenSpec.upto fnExactRankMatchedSpec)

end Rows
end Go.Proofs.Ythhmkkclmopkhaa
