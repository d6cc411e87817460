/-
  No cell of these rows narrows 'for every input' (looked for: loops, veiled, ifaces, maps, wideKeys, modest, calm, conditions, laid).
  DERIVED. THE GIVEN ROWS OF THIS SEAT. 4 by the template 'for every input the law returns true; each argument reads behind the call as it read before'; 0 by the template 'total and deterministic' (their statements: YtgfilbgjnloopaaTotals.lean).
  GIVEN WITH THE SEED: the statements are not yours to turn. If you find one false, say at which input.
  Laid BY PROGRAM, IN A SANDBOX (cutbox-rows.mjs): the forced cells as the released guide's own fill.sh prints them over the translation 855cebb2b3d38966… (all of the seat's roots in one cut). By AI agents, Wed Nov 11 2026. No macro, syntax, notation, axiom, sorry.
-/
import Derived.Test.YtgfilbgjnloopaaChecked
import GoSem.Claim
import GoSem.ClaimJoined
import GoSem.ClaimMapViews
import Derived.JoinedTies
import Derived.KernelRfl
namespace Go.Proofs.Ytgfilbgjnloopaa
/- THE CELL 'sum', in the pinned program and in every row, IS THE sha256 OF THE DUMP (.gsa) THAT YtgfilbgjnloopaaProg.lean LOADS. Nothing in Lean hashes anything: it is a label: what it is worth is what the hold of that sum in a sandbox is worth. -/
noncomputable def Try.pinned : Pinned := { name := "ytgfilbgjnloopaa", sum := "855cebb2b3d3896654f655d10345288ad591da5c232d1857653364af783b032d", checked := Try.checked }
namespace Rows
def none {H : Type} : Left H := { results := [], args := [] }

/-- 'laws.FnExactValidAlgebra': WHATEVER THE INPUT: true; the input reads as it did. -/
def fnExactValidAlgebraSpec : ChangeSpec := { name := "fnExactValidAlgebra", fn := fun _ => fun
  | [d] => { results := [.lit (.bool true)], args := [d] }
  | _ => none }
def fnExactValidAlgebraRow : OpenClaim := { program := "ytgfilbgjnloopaa", sum := "855cebb2b3d3896654f655d10345288ad591da5c232d1857653364af783b032d", func := "loop.example/g01145/laws.FnExactValidAlgebra", spec := "fnExactValidAlgebra", unfollowed := true, recurses := true, apart := false }
def FnExactValidAlgebraSaid : Prop := fnExactValidAlgebraRow.holds Try.pinned (OpenSpec.ofChange fnExactValidAlgebraSpec)

/-- ITS FALSE NEIGHBOUR: 'it returns false'. Refute it at one input. -/
def fnExactValidAlgebraWrong : ChangeSpec := { name := "fnExactValidAlgebra", fn := fun _ => fun
  | [d] => { results := [.lit (.bool false)], args := [d] }
  | _ => none }
def FnExactValidAlgebraWrongFalsely : Prop := fnExactValidAlgebraRow.holds Try.pinned (OpenSpec.ofChange fnExactValidAlgebraWrong)

/-- 'laws.FnExactAlikeIn': WHATEVER THE INPUT: true; the input reads as it did. -/
def fnExactAlikeInSpec : ChangeSpec := { name := "fnExactAlikeIn", fn := fun _ => fun
  | [d] => { results := [.lit (.bool true)], args := [d] }
  | _ => none }
def fnExactAlikeInRow : OpenClaim := { program := "ytgfilbgjnloopaa", sum := "855cebb2b3d3896654f655d10345288ad591da5c232d1857653364af783b032d", func := "loop.example/g01145/laws.FnExactAlikeIn", spec := "fnExactAlikeIn", unfollowed := true, recurses := true, apart := false }
def FnExactAlikeInSaid : Prop := fnExactAlikeInRow.holds Try.pinned (OpenSpec.ofChange fnExactAlikeInSpec)

/-- ITS FALSE NEIGHBOUR: 'it returns false'. Refute it at one input. -/
def fnExactAlikeInWrong : ChangeSpec := { name := "fnExactAlikeIn", fn := fun _ => fun
  | [d] => { results := [.lit (.bool false)], args := [d] }
  | _ => none }
def FnExactAlikeInWrongFalsely : Prop := fnExactAlikeInRow.holds Try.pinned (OpenSpec.ofChange fnExactAlikeInWrong)

/-- 'laws.FnExactElementOf': WHATEVER THE INPUT: true; the input reads as it did. -/
def fnExactElementOfSpec : ChangeSpec := { name := "fnExactElementOf", fn := fun _ => fun
  | [d1, d2] => { results := [.lit (.bool true)], args := [d1, d2] }
  | _ => none }
def fnExactElementOfRow : OpenClaim := { program := "ytgfilbgjnloopaa", sum := "855cebb2b3d3896654f655d10345288ad591da5c232d1857653364af783b032d", func := "loop.example/g01145/laws.FnExactElementOf", spec := "fnExactElementOf", inPlace := ["internal/bytealg.IndexByteString"], unfollowed := true, recurses := true, apart := false }
def FnExactElementOfSaid : Prop := fnExactElementOfRow.holds Try.pinned (OpenSpec.ofChange fnExactElementOfSpec)

/-- ITS FALSE NEIGHBOUR: 'it returns false'. Refute it at one input. -/
def fnExactElementOfWrong : ChangeSpec := { name := "fnExactElementOf", fn := fun _ => fun
  | [d1, d2] => { results := [.lit (.bool false)], args := [d1, d2] }
  | _ => none }
def FnExactElementOfWrongFalsely : Prop := fnExactElementOfRow.holds Try.pinned (OpenSpec.ofChange fnExactElementOfWrong)

/-- 'laws.FnExactAlgebraTakes': WHATEVER THE INPUT: true; the input reads as it did. -/
def fnExactAlgebraTakesSpec : ChangeSpec := { name := "fnExactAlgebraTakes", fn := fun _ => fun
  | [d1, d2] => { results := [.lit (.bool true)], args := [d1, d2] }
  | _ => none }
def fnExactAlgebraTakesRow : OpenClaim := { program := "ytgfilbgjnloopaa", sum := "855cebb2b3d3896654f655d10345288ad591da5c232d1857653364af783b032d", func := "loop.example/g01145/laws.FnExactAlgebraTakes", spec := "fnExactAlgebraTakes", inPlace := ["internal/bytealg.IndexByteString"], unfollowed := true, recurses := true, apart := false }
def FnExactAlgebraTakesSaid : Prop := fnExactAlgebraTakesRow.holds Try.pinned (OpenSpec.ofChange fnExactAlgebraTakesSpec)

/-- ITS FALSE NEIGHBOUR: 'it returns false'. Refute it at one input. -/
def fnExactAlgebraTakesWrong : ChangeSpec := { name := "fnExactAlgebraTakes", fn := fun _ => fun
  | [d1, d2] => { results := [.lit (.bool false)], args := [d1, d2] }
  | _ => none }
def FnExactAlgebraTakesWrongFalsely : Prop := fnExactAlgebraTakesRow.holds Try.pinned (OpenSpec.ofChange fnExactAlgebraTakesWrong)

/- THE SECOND FORM. 'bulk': how many values and letters a reading holds, each counted each time it is reached (what is shared counts as often as it is met; a slice's spare places count too). A statement '..UptoSaid' is the law's where the arguments, and the package variables that the reading takes, are together of bulk at most 1048576: NARROWER than '..Said'. Prove '..Said' where nothing that the law and all that it calls make is longer than what came in: it says more and counts as full. Else prove '..UptoSaid'. A law counts once. -/
mutual
def uptoBulk {H : Type} : DataW H → Nat
  | .lit (.string bytes) => bytes.length + 1
  | .lit _ => 1
  | .nil => 1
  | .ptr d => uptoBulk d + 1
  | .slice elems spare => uptoBulkAll elems + uptoBulkAll spare + 1
  | .agg parts => uptoBulkAll parts + 1
  | .iface _ d => uptoBulk d + 1
  | .map entries => uptoBulkEntries entries + 1
  | .held _ => 1
def uptoBulkAll {H : Type} : List (DataW H) → Nat
  | [] => 0
  | d :: r => uptoBulk d + uptoBulkAll r
def uptoBulkEntries {H : Type} : List (Lit × DataW H) → Nat
  | [] => 0
  | x :: r => uptoBulkEntry x + uptoBulkEntries r
def uptoBulkEntry {H : Type} : Lit × DataW H → Nat
  | (.string bytes, d) => bytes.length + uptoBulk d + 1
  | (_, d) => uptoBulk d + 1
 end
def uptoSmall : (H : Type) → List (DataW H) → Bool := fun _ ds => decide (uptoBulkAll ds ≤ 1048576)
def OpenSpec.upto (s : _root_.Go.ChangeSpec) : _root_.Go.OpenSpec := { _root_.Go.OpenSpec.ofChange s with cond := some uptoSmall }

/-- 'laws.FnExactValidAlgebra', WHERE WHAT IT READS IS OF BULK AT MOST 1048576: true; the input reads as it did. -/
def fnExactValidAlgebraUptoRow : OpenClaim := { program := "ytgfilbgjnloopaa", sum := "855cebb2b3d3896654f655d10345288ad591da5c232d1857653364af783b032d", func := "loop.example/g01145/laws.FnExactValidAlgebra", spec := "fnExactValidAlgebra", unfollowed := true, recurses := true, apart := false, narrowed := true }
def FnExactValidAlgebraUptoSaid : Prop := fnExactValidAlgebraUptoRow.holds Try.pinned (OpenSpec.upto fnExactValidAlgebraSpec)

/-- 'laws.FnExactAlikeIn', WHERE WHAT IT READS IS OF BULK AT MOST 1048576: true; the input reads as it did. -/
def fnExactAlikeInUptoRow : OpenClaim := { program := "ytgfilbgjnloopaa", sum := "855cebb2b3d3896654f655d10345288ad591da5c232d1857653364af783b032d", func := "loop.example/g01145/laws.FnExactAlikeIn", spec := "fnExactAlikeIn", unfollowed := true, recurses := true, apart := false, narrowed := true }
def FnExactAlikeInUptoSaid : Prop := fnExactAlikeInUptoRow.holds Try.pinned (OpenSpec.upto fnExactAlikeInSpec)

/-- 'laws.FnExactElementOf', WHERE WHAT IT READS IS OF BULK AT MOST 1048576: true; the input reads as it did. -/
def fnExactElementOfUptoRow : OpenClaim := { program := "ytgfilbgjnloopaa", sum := "855cebb2b3d3896654f655d10345288ad591da5c232d1857653364af783b032d", func := "loop.example/g01145/laws.FnExactElementOf", spec := "fnExactElementOf", inPlace := ["internal/bytealg.IndexByteString"], unfollowed := true, recurses := true, apart := false, narrowed := true }
def FnExactElementOfUptoSaid : Prop := fnExactElementOfUptoRow.holds Try.pinned (OpenSpec.upto fnExactElementOfSpec)

/-- 'laws.FnExactAlgebraTakes', WHERE WHAT IT READS IS OF BULK AT MOST 1048576: true; the input reads as it did. -/
def fnExactAlgebraTakesUptoRow : OpenClaim := { program := "ytgfilbgjnloopaa", sum := "855cebb2b3d3896654f655d10345288ad591da5c232d1857653364af783b032d", func := "loop.example/g01145/laws.FnExactAlgebraTakes", spec := "fnExactAlgebraTakes", inPlace := ["internal/bytealg.IndexByteString"], unfollowed := true, recurses := true, apart := false, narrowed := true }
def FnExactAlgebraTakesUptoSaid : Prop := fnExactAlgebraTakesUptoRow.holds Try.pinned (OpenSpec.upto fnExactAlgebraTakesSpec)

end Rows
end Go.Proofs.Ytgfilbgjnloopaa
