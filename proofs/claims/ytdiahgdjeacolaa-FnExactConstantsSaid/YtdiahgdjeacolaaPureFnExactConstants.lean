/- The program's constants are the reference's: the law's function answers true. -/
import Derived.Test.YtdiahgdjeacolaaPx2
import Derived.Test.YtdiahgdjeacolaaTh
namespace Go.Proofs.Ytdiahgdjeacolaa.Pure
open Go.RowKit Go.Proofs.Ytdiahgdjeacolaa.P Go.Proofs.YtdiahgdjeacolaaW.PrintWords Go.Proofs.YtdiahgdjeacolaaW.PrintLast
theorem FnExactConstants : laws_FnExactConstants.Pure := by
  unfold laws_FnExactConstants.Pure laws_FnExactConstants.f
  rfl
end Go.Proofs.Ytdiahgdjeacolaa.Pure
