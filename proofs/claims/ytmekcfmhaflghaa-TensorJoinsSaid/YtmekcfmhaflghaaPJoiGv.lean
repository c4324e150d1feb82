-- printed by wip/tools/xp.py of this project (not trusted: Lean checks it)
import Derived.Test.YtmekcfmhaflghaaCut
import Derived.Test.YtmekcfmhaflghaaParts
import Derived.Test.YtmekcfmhaflghaaJoin
namespace Go.Proofs.Ytmekcfmhaflghaa.PJoi
open Go.RowKit Go.Proofs.YtmekcfmhaflghaaW.PrintWords Go.Proofs.YtmekcfmhaflghaaW.PrintLast Go.Proofs.YtmekcfmhaflghaaW.PrintMore Go.Proofs.Ytmekcfmhaflghaa.XW
attribute [local go_sem] max2_int min2_int max_two min_two max_three min_three max_four min_four max_five min_five   -- for this text's walks alone
set_option linter.unusedVariables false
set_option linter.unusedSimpArgs false

/-! ### tensor_Grid_fix_F_Cut: function 28 -/
def tensor_Grid_fix_F_Cut.f (l0_0 l0_1 : List Int) (a1 a2 a3 : Int) : Option (List Int × List Int × Int) := CutW.cutF l0_0 l0_1 a1 a2 a3
theorem tensor_Grid_fix_F_Cut.calls (A0_0 : Option Addr) (c0_0 : Nat) (l0_0 : List Int) (A0_1 : Option Addr) (c0_1 : Nat) (l0_1 : List Int) (a1 a2 a3 : Int) (r1 : List Int) (r2 : List Int) (r3 : Int) (w : World) (hr0_0 : Kd.C (Kd.int .i64) w A0_0 l0_0.length l0_0) (hc0_0 : l0_0.length ≤ c0_0) (hr0_1 : Kd.C (Kd.int .i64) w A0_1 l0_1.length l0_1) (hc0_1 : l0_1.length ≤ c0_1) (h : tensor_Grid_fix_F_Cut.f l0_0 l0_1 a1 a2 a3 = some (r1, r2, r3)) :
    Calls Try.prog 28 #[.agg #[.slice A0_0 l0_0.length c0_0, .slice A0_1 l0_1.length c0_1], .int .i64 a1, .int .i64 a2, .int .i64 a3] w fun e w' => ∃ v0_ v1_ : Value, e = .returned (.tuple #[.agg #[v0_, v1_], .int .i64 r3]) ∧ Kd.R (Kd.int .i64) 3 w' w.heap.size (fun _ => True) v0_ r1 ∧ Kd.R (Kd.int .i64) 27 w' w.heap.size (fun _ => True) v1_ r2 ∧ Below w.heap.size w w' :=
  CutW.cut_calls A0_0 c0_0 l0_0 A0_1 c0_1 l0_1 a1 a2 a3 r1 r2 r3 w hr0_0 hc0_0 hr0_1 hc0_1 h

/-! ### tensor_Join_fix_F: function 33 -/
def tensor_Join_fix_F.f (l0_0 l0_1 l1_0 l1_1 : List Int) (a2 : Int) : Option (List Int × List Int × Int) := JoinW.joinF l0_0 l0_1 l1_0 l1_1 a2
theorem tensor_Join_fix_F.calls (A0_0 : Option Addr) (c0_0 : Nat) (l0_0 : List Int) (A0_1 : Option Addr) (c0_1 : Nat) (l0_1 : List Int) (A1_0 : Option Addr) (c1_0 : Nat) (l1_0 : List Int) (A1_1 : Option Addr) (c1_1 : Nat) (l1_1 : List Int) (a2 : Int) (r1 : List Int) (r2 : List Int) (r3 : Int) (w : World) (hr0_0 : Kd.C (Kd.int .i64) w A0_0 l0_0.length l0_0) (hc0_0 : l0_0.length ≤ c0_0) (hr0_1 : Kd.C (Kd.int .i64) w A0_1 l0_1.length l0_1) (hc0_1 : l0_1.length ≤ c0_1) (hr1_0 : Kd.C (Kd.int .i64) w A1_0 l1_0.length l1_0) (hc1_0 : l1_0.length ≤ c1_0) (hr1_1 : Kd.C (Kd.int .i64) w A1_1 l1_1.length l1_1) (hc1_1 : l1_1.length ≤ c1_1) (h : tensor_Join_fix_F.f l0_0 l0_1 l1_0 l1_1 a2 = some (r1, r2, r3)) :
    Calls Try.prog 33 #[.agg #[.slice A0_0 l0_0.length c0_0, .slice A0_1 l0_1.length c0_1], .agg #[.slice A1_0 l1_0.length c1_0, .slice A1_1 l1_1.length c1_1], .int .i64 a2] w fun e w' => ∃ v0_ v1_ : Value, e = .returned (.tuple #[.agg #[v0_, v1_], .int .i64 r3]) ∧ Kd.R (Kd.int .i64) 3 w' w.heap.size (fun _ => True) v0_ r1 ∧ Kd.R (Kd.int .i64) 27 w' w.heap.size (fun _ => True) v1_ r2 ∧ Below w.heap.size w w' :=
  JoinW.join_calls A0_0 c0_0 l0_0 A0_1 c0_1 l0_1 A1_0 c1_0 l1_0 A1_1 c1_1 l1_1 a2 r1 r2 r3 w hr0_0 hc0_0 hr0_1 hc0_1 hr1_0 hc1_0 hr1_1 hc1_1 h

/-! ### athanorref04_Parts: function 54 -/
def athanorref04_Parts.f (k : Nat) (l0 : List Int) (a1 : Int) : Option (Int × Int) := PartsW.f k l0 a1
theorem athanorref04_Parts.mono : ∀ a0 a1 k, LeO (athanorref04_Parts.f k a0 a1) (athanorref04_Parts.f (k + 1) a0 a1) := PartsW.mono
theorem athanorref04_Parts.calls (k : Nat) (A0 : Option Addr) (c0 : Nat) (l0 : List Int) (a1 : Int) (r1 : Int) (r2 : Int) (w : World) (hr0 : Kd.C (Kd.int .i64) w A0 l0.length l0) (hc0 : l0.length ≤ c0) (h : athanorref04_Parts.f k l0 a1 = some (r1, r2)) :
    Calls Try.prog 54 #[.slice A0 l0.length c0, .int .i64 a1] w fun e w' => e = .returned (.tuple #[.int .i64 r1, .int .i64 r2]) ∧ Below w.heap.size w w' :=
  PartsW.calls k A0 c0 l0 a1 r1 r2 w hr0 hc0 h

end Go.Proofs.Ytmekcfmhaflghaa.PJoi
