/- The fixed answer of layer 6, as a printed function. -/
import Derived.Test.YtgmgjddfceilhaaAwk
open Go Go.RowKit Go.Proofs
namespace Go.Proofs.Ytgmgjddfceilhaa.PDen
def athanorlaw06_awake.f : Option (Bool) := some true
theorem athanorlaw06_awake.calls (r : Bool) (w : World) (h : athanorlaw06_awake.f = some r) :
    Calls Try.prog 9 #[] w fun e w' => e = .returned (.bool r) ∧ Below w.heap.size w w' := by
  obtain rfl := Option.some.inj h
  exact Awk.walk w
end Go.Proofs.Ytgmgjddfceilhaa.PDen
