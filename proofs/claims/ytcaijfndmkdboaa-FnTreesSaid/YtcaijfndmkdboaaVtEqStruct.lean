-- cut, by a program of this session, out of what the kit's print program has laid for this seat
import Derived.Test.YtcaijfndmkdboaaVtWords
import Derived.Laws.StructEq
/-! ### 53. '==' of structs as_ one Bool -/
namespace Go.Proofs.YtcaijfndmkdboaaW.PrintWords
open Go.RowKit
section
variable {P : Program} {d : Nat} {xs ys : Array Value} {f : Field} {fs : List Field} {a b : Value} {r s : Bool} {w : World}
end
end Go.Proofs.YtcaijfndmkdboaaW.PrintWords
