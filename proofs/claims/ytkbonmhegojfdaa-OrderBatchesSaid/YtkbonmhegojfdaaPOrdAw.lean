/- The fixed answer of layer 25, as a printed function. -/
import Derived.Test.YtkbonmhegojfdaaAwk
open Go Go.RowKit Go.Proofs
namespace Go.Proofs.Ytkbonmhegojfdaa.POrd
def athanorlaw25_awake.f : Option (Bool) := some true
theorem athanorlaw25_awake.calls (r : Bool) (w : World) (h : athanorlaw25_awake.f = some r) :
    Calls Try.prog 8 #[] w fun e w' => e = .returned (.bool r) ∧ Below w.heap.size w w' := by
  obtain rfl := Option.some.inj h
  exact Awk.walk w
end Go.Proofs.Ytkbonmhegojfdaa.POrd
