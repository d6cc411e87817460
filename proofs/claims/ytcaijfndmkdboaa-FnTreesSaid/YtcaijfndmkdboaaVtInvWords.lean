-- cut, by a program of this session, out of what the kit's print program has laid for this seat
import Derived.Test.YtcaijfndmkdboaaVtInv
import Derived.Test.YtcaijfndmkdboaaVtFootNe
namespace Go.Proofs.YtcaijfndmkdboaaW.PrintWords
open Go.RowKit
end Go.Proofs.YtcaijfndmkdboaaW.PrintWords
namespace Go.Proofs.YtcaijfndmkdboaaW.PrintLast
section
variable {ops : Array Oper} {a : Act} {o og : Oper} {g : Nat} {t : Tmp} {u : Bool}
end
end Go.Proofs.YtcaijfndmkdboaaW.PrintLast
