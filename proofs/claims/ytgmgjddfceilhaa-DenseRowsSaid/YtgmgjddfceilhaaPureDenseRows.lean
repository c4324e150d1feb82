/- Rows and columns of tensors with two sides are returned. -/
import Derived.Test.YtgmgjddfceilhaaPDenx16
import Derived.Test.YtgmgjddfceilhaaLawsDense
namespace Go.Proofs.Ytgmgjddfceilhaa.Pure
open Go.RowKit Go.Proofs.Ytgmgjddfceilhaa.PDen Go.Proofs.YtgmgjddfceilhaaW.PrintWords Go.Proofs.YtgmgjddfceilhaaW.PrintLast
theorem DenseRows : athanorlaw06_DenseRows.Pure := by
  exact Go.Proofs.Ytgmgjddfceilhaa.LawsDense.DenseRows
end Go.Proofs.Ytgmgjddfceilhaa.Pure
