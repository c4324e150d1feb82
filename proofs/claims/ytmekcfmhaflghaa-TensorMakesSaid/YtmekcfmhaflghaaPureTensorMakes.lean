/- TensorMakes holds of every input. Conditions: none beyond the given ones. -/
import Derived.Test.YtmekcfmhaflghaaPTenx6
import Derived.Test.YtmekcfmhaflghaaLawsTensorM
namespace Go.Proofs.Ytmekcfmhaflghaa.Pure
open Go.RowKit Go.Proofs.Ytmekcfmhaflghaa.PTen Go.Proofs.YtmekcfmhaflghaaW.PrintWords Go.Proofs.YtmekcfmhaflghaaW.PrintLast
theorem TensorMakes : athanorlaw04_TensorMakes.Pure := by
  exact Go.Proofs.Ytmekcfmhaflghaa.LawsTensorM.TensorMakes
end Go.Proofs.Ytmekcfmhaflghaa.Pure
