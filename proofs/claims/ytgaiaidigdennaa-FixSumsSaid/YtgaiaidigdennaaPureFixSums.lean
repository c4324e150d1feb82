/- sums and differences are exact within the bounds and saturate beyond them; conditions: none beyond the statement's own. -/
import Derived.Test.YtgaiaidigdennaaPFixx8
import Derived.Test.YtgaiaidigdennaaLawsFix
namespace Go.Proofs.Ytgaiaidigdennaa.Pure
open Go.RowKit Go.Proofs.Ytgaiaidigdennaa.PFix Go.Proofs.YtgaiaidigdennaaW.PrintWords Go.Proofs.YtgaiaidigdennaaW.PrintLast
theorem FixSums : athanorlaw01_FixSums.Pure := by
  exact Go.Proofs.Ytgaiaidigdennaa.LawsFix.FixSums
end Go.Proofs.Ytgaiaidigdennaa.Pure
