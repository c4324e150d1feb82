/- A bias is added cell by cell, or refused. -/
import Derived.Test.YtgmgjddfceilhaaPDenx18
import Derived.Test.YtgmgjddfceilhaaLawsDenseB
namespace Go.Proofs.Ytgmgjddfceilhaa.Pure
open Go.RowKit Go.Proofs.Ytgmgjddfceilhaa.PDen Go.Proofs.YtgmgjddfceilhaaW.PrintWords Go.Proofs.YtgmgjddfceilhaaW.PrintLast
theorem DenseBias : athanorlaw06_DenseBias.Pure := by
  exact Go.Proofs.Ytgmgjddfceilhaa.LawsDenseB.DenseBias
end Go.Proofs.Ytgmgjddfceilhaa.Pure
