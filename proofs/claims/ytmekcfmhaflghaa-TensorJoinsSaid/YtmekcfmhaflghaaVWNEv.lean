-- words that the kit's print laid for this seat, without those that this claim does not use (wip/tools/wtrim.py)
import Derived.Test.YtmekcfmhaflghaaVWN
namespace Go.Proofs.YtmekcfmhaflghaaW.PrintWords
open Go.RowKit
namespace Kd
section
variable {α : Type} {d : Kd α} {e base n cap g : Nat} {ok ok' okp : Nat → Prop} {w w1 W : World} {v v1 : Value} {xs ys : List α}
end
section
variable {P : Program} {ops : Array Oper} {rest : List Oper} {o : Oper} {a : Act} {Q : Exit → Act → World → Prop} {Kc : Act → World → Prop} {α : Type}
end
end Kd
end Go.Proofs.YtmekcfmhaflghaaW.PrintWords
