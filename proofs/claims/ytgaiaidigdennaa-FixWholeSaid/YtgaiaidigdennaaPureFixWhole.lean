/- whole numbers, ratios, signs and floors of fixed-point numbers are the document's; conditions: none beyond the statement's own. -/
import Derived.Test.YtgaiaidigdennaaPFixx6
import Derived.Test.YtgaiaidigdennaaLawsFix
namespace Go.Proofs.Ytgaiaidigdennaa.Pure
open Go.RowKit Go.Proofs.Ytgaiaidigdennaa.PFix Go.Proofs.YtgaiaidigdennaaW.PrintWords Go.Proofs.YtgaiaidigdennaaW.PrintLast
theorem FixWhole : athanorlaw01_FixWhole.Pure := by
  exact Go.Proofs.Ytgaiaidigdennaa.LawsFix.FixWhole
end Go.Proofs.Ytgaiaidigdennaa.Pure
