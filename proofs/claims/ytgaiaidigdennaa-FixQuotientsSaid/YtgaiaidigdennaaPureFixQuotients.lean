/- any quotient of two fixed-point numbers is the document's, and a number divided by itself is one; conditions: none beyond the statement's own. -/
import Derived.Test.YtgaiaidigdennaaPFixx6
import Derived.Test.YtgaiaidigdennaaLawsFix
namespace Go.Proofs.Ytgaiaidigdennaa.Pure
open Go.RowKit Go.Proofs.Ytgaiaidigdennaa.PFix Go.Proofs.YtgaiaidigdennaaW.PrintWords Go.Proofs.YtgaiaidigdennaaW.PrintLast
theorem FixQuotients : athanorlaw01_FixQuotients.Pure := by
  exact Go.Proofs.Ytgaiaidigdennaa.LawsFix.FixQuotients
end Go.Proofs.Ytgaiaidigdennaa.Pure
