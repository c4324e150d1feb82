/- multiplying by a non-negative number and adding keep the order, and clamped numbers lie within their bounds; conditions: none beyond the statement's own. -/
import Derived.Test.YtgaiaidigdennaaPFixx8
import Derived.Test.YtgaiaidigdennaaLawsFix
namespace Go.Proofs.Ytgaiaidigdennaa.Pure
open Go.RowKit Go.Proofs.Ytgaiaidigdennaa.PFix Go.Proofs.YtgaiaidigdennaaW.PrintWords Go.Proofs.YtgaiaidigdennaaW.PrintLast
theorem FixOrder : athanorlaw01_FixOrder.Pure := by
  exact Go.Proofs.Ytgaiaidigdennaa.LawsFix.FixOrder
end Go.Proofs.Ytgaiaidigdennaa.Pure
