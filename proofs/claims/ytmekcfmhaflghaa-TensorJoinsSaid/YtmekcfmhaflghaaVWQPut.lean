-- words that the kit's print laid for this seat, without those that this claim does not use (wip/tools/wtrim.py)
import Derived.Test.YtmekcfmhaflghaaVWWords
import Derived.Test.YtmekcfmhaflghaaVWLast
namespace Go.Proofs.YtmekcfmhaflghaaW.PrintWords
open Go.RowKit
namespace Kd
section
variable {α : Type} {d : Kd α} {e base g o n cap : Nat} {ok okp : Nat → Prop} {w W : World} {v : Value} {xs : List α}
end
section
variable {α : Type} {enc : α → Value} {h1 : ∀ x, (enc x).oneCell' = true} {e base g o n cap : Nat} {ok : Nat → Prop} {W : World} {xs : List α}
end
end Kd
end Go.Proofs.YtmekcfmhaflghaaW.PrintWords
