/- TensorCells holds of every input: a cell is told, or another one laid, by its place; all else stays. Conditions: none beyond the given ones. -/
import Derived.Test.YtmekcfmhaflghaaPTenx8
import Derived.Test.YtmekcfmhaflghaaLawsTensorC
namespace Go.Proofs.Ytmekcfmhaflghaa.Pure
open Go.RowKit Go.Proofs.Ytmekcfmhaflghaa.PTen Go.Proofs.YtmekcfmhaflghaaW.PrintWords Go.Proofs.YtmekcfmhaflghaaW.PrintLast
theorem TensorCells : athanorlaw04_TensorCells.Pure := by
  exact Go.Proofs.Ytmekcfmhaflghaa.LawsTensorC.TensorCells
end Go.Proofs.Ytmekcfmhaflghaa.Pure
