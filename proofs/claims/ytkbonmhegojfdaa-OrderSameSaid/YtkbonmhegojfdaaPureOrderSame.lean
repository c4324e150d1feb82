/- Missing draws count as nought; only the remainders of the draws matter. -/
import Derived.Test.YtkbonmhegojfdaaPOrdx4
import Derived.Test.YtkbonmhegojfdaaLawsOrdS
namespace Go.Proofs.Ytkbonmhegojfdaa.Pure
open Go.RowKit Go.Proofs.Ytkbonmhegojfdaa.POrd Go.Proofs.YtkbonmhegojfdaaW.PrintWords Go.Proofs.YtkbonmhegojfdaaW.PrintLast
theorem OrderSame : athanorlaw25_OrderSame.Pure := by
  exact Go.Proofs.Ytkbonmhegojfdaa.LawsOrdS.OrderSame
end Go.Proofs.Ytkbonmhegojfdaa.Pure
