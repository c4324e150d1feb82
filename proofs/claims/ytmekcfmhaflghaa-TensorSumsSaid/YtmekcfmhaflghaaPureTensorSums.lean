/- Sums, multiples and dot products of grids are computed cell by cell. -/
import Derived.Test.YtmekcfmhaflghaaPTenSx8
import Derived.Test.YtmekcfmhaflghaaLawsTensorS
namespace Go.Proofs.Ytmekcfmhaflghaa.Pure
open Go.RowKit Go.Proofs.Ytmekcfmhaflghaa.PTenS Go.Proofs.YtmekcfmhaflghaaW.PrintWords Go.Proofs.YtmekcfmhaflghaaW.PrintLast
theorem TensorSums : athanorlaw04_TensorSums.Pure := by
  exact Go.Proofs.Ytmekcfmhaflghaa.LawsTensorS.TensorSums
end Go.Proofs.Ytmekcfmhaflghaa.Pure
