
import Derived.Test.YtolmmfcofbhagaaVpInv
import Derived.Test.YtolmmfcofbhagaaVpFootNe
namespace Go.Proofs.YtolmmfcofbhagaaW.PrintWords
open Go.RowKit
end Go.Proofs.YtolmmfcofbhagaaW.PrintWords
namespace Go.Proofs.YtolmmfcofbhagaaW.PrintLast
section
variable {ops : Array Oper} {a : Act} {o og : Oper} {g : Nat} {t : Tmp} {u : Bool}
end
end Go.Proofs.YtolmmfcofbhagaaW.PrintLast
