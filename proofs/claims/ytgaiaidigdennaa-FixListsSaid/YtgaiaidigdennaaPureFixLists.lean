/- sums and dot products of any lists are computed from the first element on; conditions: none beyond the statement's own. -/
import Derived.Test.YtgaiaidigdennaaPFixx7
import Derived.Test.YtgaiaidigdennaaLawsFix
namespace Go.Proofs.Ytgaiaidigdennaa.Pure
open Go.RowKit Go.Proofs.Ytgaiaidigdennaa.PFix Go.Proofs.YtgaiaidigdennaaW.PrintWords Go.Proofs.YtgaiaidigdennaaW.PrintLast
theorem FixLists : athanorlaw01_FixLists.Pure := by
  exact Go.Proofs.Ytgaiaidigdennaa.LawsFix.FixLists
end Go.Proofs.Ytgaiaidigdennaa.Pure
