-- cut, by a program of this session, out of what the kit's print program has laid for this seat
import Derived.Test.YtcaijfndmkdboaaVtTab
/-! ### 56. Four, five, six operations that may come up next, in any order -/
namespace Go.Proofs.YtcaijfndmkdboaaW.PrintLast
section
variable {P : Program} {ops : Array Oper} {Q : Exit → Act → World → Prop} {md : Region.Mode} {S : World → Prop} {ds : List Nat} {T : Bool × List (List Nat × List Nat)}
end
end Go.Proofs.YtcaijfndmkdboaaW.PrintLast
