/- Law TensorJoins on the printed functions. -/
import Derived.Test.YtmekcfmhaflghaaPJoix8
import Derived.Test.YtmekcfmhaflghaaLawsJoinsT
namespace Go.Proofs.Ytmekcfmhaflghaa.Pure
open Go.RowKit Go.Proofs.Ytmekcfmhaflghaa.PJoi Go.Proofs.YtmekcfmhaflghaaW.PrintWords Go.Proofs.YtmekcfmhaflghaaW.PrintLast
theorem TensorJoins : athanorlaw04_TensorJoins.Pure := by
  exact Go.Proofs.Ytmekcfmhaflghaa.LawsJoinsT.TensorJoins
end Go.Proofs.Ytmekcfmhaflghaa.Pure
