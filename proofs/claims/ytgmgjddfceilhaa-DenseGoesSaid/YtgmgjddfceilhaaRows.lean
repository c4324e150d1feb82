/-
  No cell of these rows narrows 'for every input' (looked for: loops, veiled, ifaces, maps, wideKeys, modest, calm, conditions, laid).
  DERIVED. THE GIVEN ROWS OF THIS SEAT. 5 by the template 'for every input the law returns true; each argument reads behind the call as it read before'; 0 by the template 'total and deterministic' (their statements: YtgmgjddfceilhaaTotals.lean).
  GIVEN WITH THE SEED: the statements are not yours to turn. If you find one false, say at which input.
  Laid BY PROGRAM, IN A SANDBOX (cutbox-rows.mjs): the forced cells as the released guide's own fill.sh prints them over the translation 30643a01068d553b… (all of the seat's roots in one cut). By AI agents, Wed Nov 11 2026. No macro, syntax, notation, axiom, sorry.
-/
import Derived.Test.YtgmgjddfceilhaaChecked
import GoSem.Claim
import GoSem.ClaimJoined
import GoSem.ClaimMapViews
import Derived.JoinedTies
import Derived.KernelRfl
namespace Go.Proofs.Ytgmgjddfceilhaa
/- THE CELL 'sum', in the pinned program and in every row, IS THE sha256 OF THE DUMP (.gsa) THAT YtgmgjddfceilhaaProg.lean LOADS. Nothing in Lean hashes anything: it is a label: what it is worth is what the hold of that sum in a sandbox is worth. -/
noncomputable def Try.pinned : Pinned := { name := "ytgmgjddfceilhaa", sum := "30643a01068d553b64c17fa70365253393042c2fbd7d83529016a25079d50321", checked := Try.checked }
namespace Rows
def none {H : Type} : Left H := { results := [], args := [] }

/-- 'athanorlaw06.DenseGoes': WHATEVER THE INPUT: true; the input reads as it did. -/
def denseGoesSpec : ChangeSpec := { name := "denseGoes", fn := fun _ => fun
  | [d] => { results := [.lit (.bool true)], args := [d] }
  | _ => none }
def denseGoesRow : OpenClaim := { program := "ytgmgjddfceilhaa", sum := "30643a01068d553b64c17fa70365253393042c2fbd7d83529016a25079d50321", func := "athanor/athanorlaw06.DenseGoes", spec := "denseGoes", unfollowed := true, recurses := true, apart := false }
def DenseGoesSaid : Prop := denseGoesRow.holds Try.pinned (OpenSpec.ofChange denseGoesSpec)

/-- ITS FALSE NEIGHBOUR: 'it returns false'. Refute it at one input. -/
def denseGoesWrong : ChangeSpec := { name := "denseGoes", fn := fun _ => fun
  | [d] => { results := [.lit (.bool false)], args := [d] }
  | _ => none }
def DenseGoesWrongFalsely : Prop := denseGoesRow.holds Try.pinned (OpenSpec.ofChange denseGoesWrong)

/-- 'athanorlaw06.DenseBacks': WHATEVER THE INPUT: true; the input reads as it did. -/
def denseBacksSpec : ChangeSpec := { name := "denseBacks", fn := fun _ => fun
  | [d] => { results := [.lit (.bool true)], args := [d] }
  | _ => none }
def denseBacksRow : OpenClaim := { program := "ytgmgjddfceilhaa", sum := "30643a01068d553b64c17fa70365253393042c2fbd7d83529016a25079d50321", func := "athanor/athanorlaw06.DenseBacks", spec := "denseBacks", unfollowed := true, recurses := true, apart := false }
def DenseBacksSaid : Prop := denseBacksRow.holds Try.pinned (OpenSpec.ofChange denseBacksSpec)

/-- ITS FALSE NEIGHBOUR: 'it returns false'. Refute it at one input. -/
def denseBacksWrong : ChangeSpec := { name := "denseBacks", fn := fun _ => fun
  | [d] => { results := [.lit (.bool false)], args := [d] }
  | _ => none }
def DenseBacksWrongFalsely : Prop := denseBacksRow.holds Try.pinned (OpenSpec.ofChange denseBacksWrong)

/-- 'athanorlaw06.DenseRows': WHATEVER THE INPUT: true; the input reads as it did. -/
def denseRowsSpec : ChangeSpec := { name := "denseRows", fn := fun _ => fun
  | [d1, d2, d3] => { results := [.lit (.bool true)], args := [d1, d2, d3] }
  | _ => none }
def denseRowsRow : OpenClaim := { program := "ytgmgjddfceilhaa", sum := "30643a01068d553b64c17fa70365253393042c2fbd7d83529016a25079d50321", func := "athanor/athanorlaw06.DenseRows", spec := "denseRows", unfollowed := true, recurses := true, apart := false }
def DenseRowsSaid : Prop := denseRowsRow.holds Try.pinned (OpenSpec.ofChange denseRowsSpec)

/-- ITS FALSE NEIGHBOUR: 'it returns false'. Refute it at one input. -/
def denseRowsWrong : ChangeSpec := { name := "denseRows", fn := fun _ => fun
  | [d1, d2, d3] => { results := [.lit (.bool false)], args := [d1, d2, d3] }
  | _ => none }
def DenseRowsWrongFalsely : Prop := denseRowsRow.holds Try.pinned (OpenSpec.ofChange denseRowsWrong)

/-- 'athanorlaw06.DenseBias': WHATEVER THE INPUT: true; the input reads as it did. -/
def denseBiasSpec : ChangeSpec := { name := "denseBias", fn := fun _ => fun
  | [d1, d2] => { results := [.lit (.bool true)], args := [d1, d2] }
  | _ => none }
def denseBiasRow : OpenClaim := { program := "ytgmgjddfceilhaa", sum := "30643a01068d553b64c17fa70365253393042c2fbd7d83529016a25079d50321", func := "athanor/athanorlaw06.DenseBias", spec := "denseBias", unfollowed := true, recurses := true, apart := false }
def DenseBiasSaid : Prop := denseBiasRow.holds Try.pinned (OpenSpec.ofChange denseBiasSpec)

/-- ITS FALSE NEIGHBOUR: 'it returns false'. Refute it at one input. -/
def denseBiasWrong : ChangeSpec := { name := "denseBias", fn := fun _ => fun
  | [d1, d2] => { results := [.lit (.bool false)], args := [d1, d2] }
  | _ => none }
def DenseBiasWrongFalsely : Prop := denseBiasRow.holds Try.pinned (OpenSpec.ofChange denseBiasWrong)

/-- 'athanorlaw06.DenseNoughts': WHATEVER THE INPUT: true; the input reads as it did. -/
def denseNoughtsSpec : ChangeSpec := { name := "denseNoughts", fn := fun _ => fun
  | [d] => { results := [.lit (.bool true)], args := [d] }
  | _ => none }
def denseNoughtsRow : OpenClaim := { program := "ytgmgjddfceilhaa", sum := "30643a01068d553b64c17fa70365253393042c2fbd7d83529016a25079d50321", func := "athanor/athanorlaw06.DenseNoughts", spec := "denseNoughts", unfollowed := true, recurses := true, apart := false }
def DenseNoughtsSaid : Prop := denseNoughtsRow.holds Try.pinned (OpenSpec.ofChange denseNoughtsSpec)

/-- ITS FALSE NEIGHBOUR: 'it returns false'. Refute it at one input. -/
def denseNoughtsWrong : ChangeSpec := { name := "denseNoughts", fn := fun _ => fun
  | [d] => { results := [.lit (.bool false)], args := [d] }
  | _ => none }
def DenseNoughtsWrongFalsely : Prop := denseNoughtsRow.holds Try.pinned (OpenSpec.ofChange denseNoughtsWrong)

/- THE SECOND FORM. 'bulk': how many values and letters a reading holds, each counted each time it is reached (what is shared counts as often as it is met; a slice's spare places count too). A statement '..UptoSaid' is the law's where the arguments, and the package variables that the reading takes, are together of bulk at most 1048576: NARROWER than '..Said'. Prove '..Said' where nothing that the law and all that it calls make is longer than what came in: it says more and counts as full. Else prove '..UptoSaid'. A law counts once. -/
mutual
def uptoBulk {H : Type} : DataW H → Nat
  | .lit (.string bytes) => bytes.length + 1
  | .lit _ => 1
  | .nil => 1
  | .ptr d => uptoBulk d + 1
  | .slice elems spare => uptoBulkAll elems + uptoBulkAll spare + 1
  | .agg parts => uptoBulkAll parts + 1
  | .iface _ d => uptoBulk d + 1
  | .map entries => uptoBulkEntries entries + 1
  | .held _ => 1
def uptoBulkAll {H : Type} : List (DataW H) → Nat
  | [] => 0
  | d :: r => uptoBulk d + uptoBulkAll r
def uptoBulkEntries {H : Type} : List (Lit × DataW H) → Nat
  | [] => 0
  | x :: r => uptoBulkEntry x + uptoBulkEntries r
def uptoBulkEntry {H : Type} : Lit × DataW H → Nat
  | (.string bytes, d) => bytes.length + uptoBulk d + 1
  | (_, d) => uptoBulk d + 1
 end
def uptoSmall : (H : Type) → List (DataW H) → Bool := fun _ ds => decide (uptoBulkAll ds ≤ 1048576)
def OpenSpec.upto (s : _root_.Go.ChangeSpec) : _root_.Go.OpenSpec := { _root_.Go.OpenSpec.ofChange s with cond := some uptoSmall }

/-- 'athanorlaw06.DenseGoes', WHERE WHAT IT READS IS OF BULK AT MOST 1048576: true; the input reads as it did. -/
def denseGoesUptoRow : OpenClaim := { program := "ytgmgjddfceilhaa", sum := "30643a01068d553b64c17fa70365253393042c2fbd7d83529016a25079d50321", func := "athanor/athanorlaw06.DenseGoes", spec := "denseGoes", unfollowed := true, recurses := true, apart := false, narrowed := true }
def DenseGoesUptoSaid : Prop := denseGoesUptoRow.holds Try.pinned (OpenSpec.upto denseGoesSpec)

/-- 'athanorlaw06.DenseBacks', WHERE WHAT IT READS IS OF BULK AT MOST 1048576: true; the input reads as it did. -/
def denseBacksUptoRow : OpenClaim := { program := "ytgmgjddfceilhaa", sum := "30643a01068d553b64c17fa70365253393042c2fbd7d83529016a25079d50321", func := "athanor/athanorlaw06.DenseBacks", spec := "denseBacks", unfollowed := true, recurses := true, apart := false, narrowed := true }
def DenseBacksUptoSaid : Prop := denseBacksUptoRow.holds Try.pinned (OpenSpec.upto denseBacksSpec)

/-- 'athanorlaw06.DenseRows', WHERE WHAT IT READS IS OF BULK AT MOST 1048576: true; the input reads as it did. -/
def denseRowsUptoRow : OpenClaim := { program := "ytgmgjddfceilhaa", sum := "30643a01068d553b64c17fa70365253393042c2fbd7d83529016a25079d50321", func := "athanor/athanorlaw06.DenseRows", spec := "denseRows", unfollowed := true, recurses := true, apart := false, narrowed := true }
def DenseRowsUptoSaid : Prop := denseRowsUptoRow.holds Try.pinned (OpenSpec.upto denseRowsSpec)

/-- 'athanorlaw06.DenseBias', WHERE WHAT IT READS IS OF BULK AT MOST 1048576: true; the input reads as it did. -/
def denseBiasUptoRow : OpenClaim := { program := "ytgmgjddfceilhaa", sum := "30643a01068d553b64c17fa70365253393042c2fbd7d83529016a25079d50321", func := "athanor/athanorlaw06.DenseBias", spec := "denseBias", unfollowed := true, recurses := true, apart := false, narrowed := true }
def DenseBiasUptoSaid : Prop := denseBiasUptoRow.holds Try.pinned (OpenSpec.upto denseBiasSpec)

/-- 'athanorlaw06.DenseNoughts', WHERE WHAT IT READS IS OF BULK AT MOST 1048576: true; the input reads as it did. -/
def denseNoughtsUptoRow : OpenClaim := { program := "ytgmgjddfceilhaa", sum := "30643a01068d553b64c17fa70365253393042c2fbd7d83529016a25079d50321", func := "athanor/athanorlaw06.DenseNoughts", spec := "denseNoughts", unfollowed := true, recurses := true, apart := false, narrowed := true }
def DenseNoughtsUptoSaid : Prop := denseNoughtsUptoRow.holds Try.pinned (OpenSpec.upto denseNoughtsSpec)

end Rows
end Go.Proofs.Ytgmgjddfceilhaa
