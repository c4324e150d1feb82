/- any product of two fixed-point numbers is the document's, rounded and saturated, in either order; conditions: none beyond the statement's own. -/
import Derived.Test.YtgaiaidigdennaaPFixx4
import Derived.Test.YtgaiaidigdennaaLawsFix
namespace Go.Proofs.Ytgaiaidigdennaa.Pure
open Go.RowKit Go.Proofs.Ytgaiaidigdennaa.PFix Go.Proofs.YtgaiaidigdennaaW.PrintWords Go.Proofs.YtgaiaidigdennaaW.PrintLast
theorem FixProducts : athanorlaw01_FixProducts.Pure := by
  exact Go.Proofs.Ytgaiaidigdennaa.LawsFix.FixProducts
end Go.Proofs.Ytgaiaidigdennaa.Pure
