/- Law TensorCuts on the printed functions. -/
import Derived.Test.YtmekcfmhaflghaaPCutx7
import Derived.Test.YtmekcfmhaflghaaLawsCuts
namespace Go.Proofs.Ytmekcfmhaflghaa.Pure
open Go.RowKit Go.Proofs.Ytmekcfmhaflghaa.PCut Go.Proofs.YtmekcfmhaflghaaW.PrintWords Go.Proofs.YtmekcfmhaflghaaW.PrintLast
theorem TensorCuts : athanorlaw04_TensorCuts.Pure := by
  exact Go.Proofs.Ytmekcfmhaflghaa.LawsCuts.TensorCuts
end Go.Proofs.Ytmekcfmhaflghaa.Pure
