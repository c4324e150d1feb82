/- Any draws mix the things as the document says; each is there once. -/
import Derived.Test.YtkbonmhegojfdaaPOrdx3
import Derived.Test.YtkbonmhegojfdaaLawsOrdM
namespace Go.Proofs.Ytkbonmhegojfdaa.Pure
open Go.RowKit Go.Proofs.Ytkbonmhegojfdaa.POrd Go.Proofs.YtkbonmhegojfdaaW.PrintWords Go.Proofs.YtkbonmhegojfdaaW.PrintLast
theorem OrderMixes : athanorlaw25_OrderMixes.Pure := by
  exact Go.Proofs.Ytkbonmhegojfdaa.LawsOrdM.OrderMixes
end Go.Proofs.Ytkbonmhegojfdaa.Pure
