/- The inverse of any order is told, and the order again of that; what is none is refused. -/
import Derived.Test.YtkbonmhegojfdaaPOrdx3
import Derived.Test.YtkbonmhegojfdaaLawsOrdI
namespace Go.Proofs.Ytkbonmhegojfdaa.Pure
open Go.RowKit Go.Proofs.Ytkbonmhegojfdaa.POrd Go.Proofs.YtkbonmhegojfdaaW.PrintWords Go.Proofs.YtkbonmhegojfdaaW.PrintLast
theorem OrderInverts : athanorlaw25_OrderInverts.Pure := by
  exact Go.Proofs.Ytkbonmhegojfdaa.LawsOrdI.OrderInverts
end Go.Proofs.Ytkbonmhegojfdaa.Pure
