/-
  No cell of these rows narrows 'for every input' (looked for: loops, veiled, ifaces, maps, wideKeys, modest, calm, conditions, laid).
  DERIVED. THE GIVEN ROWS OF THIS SEAT. 6 by the template 'for every input the law returns true; each argument reads behind the call as it read before'; 0 by the template 'total and deterministic' (their statements: YtdefilnjkacepaaTotals.lean).
  GIVEN WITH THE SEED: the statements are not yours to turn. If you find one false, say at which input.
  Laid BY PROGRAM, IN A SANDBOX (cutbox-rows.mjs): the forced cells as the released guide's own fill.sh prints them over the translation 3a6ddc41a8b802f8… (all of the seat's roots in one cut). By AI agents, Wed Nov 11 2026. No macro, syntax, notation, axiom, sorry.
-/
import Derived.Test.YtdefilnjkacepaaChecked
import GoSem.Claim
import GoSem.ClaimJoined
import GoSem.ClaimMapViews
import Derived.JoinedTies
import Derived.KernelRfl
namespace Go.Proofs.Ytdefilnjkacepaa
/- THE CELL 'sum', in the pinned program and in every row, IS THE sha256 OF THE DUMP (.gsa) THAT YtdefilnjkacepaaProg.lean LOADS. Nothing in Lean hashes anything: it is a label: what it is worth is what the hold of that sum in a sandbox is worth. -/
noncomputable def Try.pinned : Pinned := { name := "ytdefilnjkacepaa", sum := "3a6ddc41a8b802f8ed046b75e722fbc6f4dc8b75d4b535356cd0cef56fe83cf8", checked := Try.checked }
namespace Rows
def none {H : Type} : Left H := { results := [], args := [] }

/-- 'athanorlaw03.ShapeSizes': WHATEVER THE INPUT: true; the input reads as it did. -/
def shapeSizesSpec : ChangeSpec := { name := "shapeSizes", fn := fun _ => fun
  | [d] => { results := [.lit (.bool true)], args := [d] }
  | _ => none }
def shapeSizesRow : OpenClaim := { program := "ytdefilnjkacepaa", sum := "3a6ddc41a8b802f8ed046b75e722fbc6f4dc8b75d4b535356cd0cef56fe83cf8", func := "athanor/athanorlaw03.ShapeSizes", spec := "shapeSizes", unfollowed := true, recurses := true, apart := false }
def ShapeSizesSaid : Prop := shapeSizesRow.holds Try.pinned (OpenSpec.ofChange shapeSizesSpec)

/-- ITS FALSE NEIGHBOUR: 'it returns false'. Refute it at one input. -/
def shapeSizesWrong : ChangeSpec := { name := "shapeSizes", fn := fun _ => fun
  | [d] => { results := [.lit (.bool false)], args := [d] }
  | _ => none }
def ShapeSizesWrongFalsely : Prop := shapeSizesRow.holds Try.pinned (OpenSpec.ofChange shapeSizesWrong)

/-- 'athanorlaw03.ShapeWindows': WHATEVER THE INPUT: true; the input reads as it did. -/
def shapeWindowsSpec : ChangeSpec := { name := "shapeWindows", fn := fun _ => fun
  | [d1, d2, d3] => { results := [.lit (.bool true)], args := [d1, d2, d3] }
  | _ => none }
def shapeWindowsRow : OpenClaim := { program := "ytdefilnjkacepaa", sum := "3a6ddc41a8b802f8ed046b75e722fbc6f4dc8b75d4b535356cd0cef56fe83cf8", func := "athanor/athanorlaw03.ShapeWindows", spec := "shapeWindows", unfollowed := true, recurses := true, apart := false }
def ShapeWindowsSaid : Prop := shapeWindowsRow.holds Try.pinned (OpenSpec.ofChange shapeWindowsSpec)

/-- ITS FALSE NEIGHBOUR: 'it returns false'. Refute it at one input. -/
def shapeWindowsWrong : ChangeSpec := { name := "shapeWindows", fn := fun _ => fun
  | [d1, d2, d3] => { results := [.lit (.bool false)], args := [d1, d2, d3] }
  | _ => none }
def ShapeWindowsWrongFalsely : Prop := shapeWindowsRow.holds Try.pinned (OpenSpec.ofChange shapeWindowsWrong)

/-- 'athanorlaw03.ShapeJoins': WHATEVER THE INPUT: true; the input reads as it did. -/
def shapeJoinsSpec : ChangeSpec := { name := "shapeJoins", fn := fun _ => fun
  | [d] => { results := [.lit (.bool true)], args := [d] }
  | _ => none }
def shapeJoinsRow : OpenClaim := { program := "ytdefilnjkacepaa", sum := "3a6ddc41a8b802f8ed046b75e722fbc6f4dc8b75d4b535356cd0cef56fe83cf8", func := "athanor/athanorlaw03.ShapeJoins", spec := "shapeJoins", unfollowed := true, recurses := true, apart := false }
def ShapeJoinsSaid : Prop := shapeJoinsRow.holds Try.pinned (OpenSpec.ofChange shapeJoinsSpec)

/-- ITS FALSE NEIGHBOUR: 'it returns false'. Refute it at one input. -/
def shapeJoinsWrong : ChangeSpec := { name := "shapeJoins", fn := fun _ => fun
  | [d] => { results := [.lit (.bool false)], args := [d] }
  | _ => none }
def ShapeJoinsWrongFalsely : Prop := shapeJoinsRow.holds Try.pinned (OpenSpec.ofChange shapeJoinsWrong)

/-- 'athanorlaw03.ShapeCuts': WHATEVER THE INPUT: true; the input reads as it did. -/
def shapeCutsSpec : ChangeSpec := { name := "shapeCuts", fn := fun _ => fun
  | [d] => { results := [.lit (.bool true)], args := [d] }
  | _ => none }
def shapeCutsRow : OpenClaim := { program := "ytdefilnjkacepaa", sum := "3a6ddc41a8b802f8ed046b75e722fbc6f4dc8b75d4b535356cd0cef56fe83cf8", func := "athanor/athanorlaw03.ShapeCuts", spec := "shapeCuts", unfollowed := true, recurses := true, apart := false }
def ShapeCutsSaid : Prop := shapeCutsRow.holds Try.pinned (OpenSpec.ofChange shapeCutsSpec)

/-- ITS FALSE NEIGHBOUR: 'it returns false'. Refute it at one input. -/
def shapeCutsWrong : ChangeSpec := { name := "shapeCuts", fn := fun _ => fun
  | [d] => { results := [.lit (.bool false)], args := [d] }
  | _ => none }
def ShapeCutsWrongFalsely : Prop := shapeCutsRow.holds Try.pinned (OpenSpec.ofChange shapeCutsWrong)

/-- 'athanorlaw03.ShapePlaces': WHATEVER THE INPUT: true; the input reads as it did. -/
def shapePlacesSpec : ChangeSpec := { name := "shapePlaces", fn := fun _ => fun
  | [d1, d2, d3] => { results := [.lit (.bool true)], args := [d1, d2, d3] }
  | _ => none }
def shapePlacesRow : OpenClaim := { program := "ytdefilnjkacepaa", sum := "3a6ddc41a8b802f8ed046b75e722fbc6f4dc8b75d4b535356cd0cef56fe83cf8", func := "athanor/athanorlaw03.ShapePlaces", spec := "shapePlaces", unfollowed := true, recurses := true, apart := false }
def ShapePlacesSaid : Prop := shapePlacesRow.holds Try.pinned (OpenSpec.ofChange shapePlacesSpec)

/-- ITS FALSE NEIGHBOUR: 'it returns false'. Refute it at one input. -/
def shapePlacesWrong : ChangeSpec := { name := "shapePlaces", fn := fun _ => fun
  | [d1, d2, d3] => { results := [.lit (.bool false)], args := [d1, d2, d3] }
  | _ => none }
def ShapePlacesWrongFalsely : Prop := shapePlacesRow.holds Try.pinned (OpenSpec.ofChange shapePlacesWrong)

/-- 'athanorlaw03.ShapeAll': WHATEVER THE INPUT: true; the input reads as it did. -/
def shapeAllSpec : ChangeSpec := { name := "shapeAll", fn := fun _ => fun
  | [d1, d2] => { results := [.lit (.bool true)], args := [d1, d2] }
  | _ => none }
def shapeAllRow : OpenClaim := { program := "ytdefilnjkacepaa", sum := "3a6ddc41a8b802f8ed046b75e722fbc6f4dc8b75d4b535356cd0cef56fe83cf8", func := "athanor/athanorlaw03.ShapeAll", spec := "shapeAll", unfollowed := true, recurses := true, apart := false }
def ShapeAllSaid : Prop := shapeAllRow.holds Try.pinned (OpenSpec.ofChange shapeAllSpec)

/-- ITS FALSE NEIGHBOUR: 'it returns false'. Refute it at one input. -/
def shapeAllWrong : ChangeSpec := { name := "shapeAll", fn := fun _ => fun
  | [d1, d2] => { results := [.lit (.bool false)], args := [d1, d2] }
  | _ => none }
def ShapeAllWrongFalsely : Prop := shapeAllRow.holds Try.pinned (OpenSpec.ofChange shapeAllWrong)

/- THE SECOND FORM. 'bulk': how many values and letters a reading holds, each counted each time it is reached (what is shared counts as often as it is met; a slice's spare places count too). A statement '..UptoSaid' is the law's where the arguments, and the package variables that the reading takes, are together of bulk at most 1048576: NARROWER than '..Said'. Prove '..Said' where nothing that the law and all that it calls make is longer than what came in: it says more and counts as full. Else prove '..UptoSaid'. A law counts once. -/
mutual
def uptoBulk {H : Type} : DataW H → Nat
  | .lit (.string bytes) => bytes.length + 1
  | .lit _ => 1
  | .nil => 1
  | .ptr d => uptoBulk d + 1
  | .slice elems spare => uptoBulkAll elems + uptoBulkAll spare + 1
  | .agg parts => uptoBulkAll parts + 1
  | .iface _ d => uptoBulk d + 1
  | .map entries => uptoBulkEntries entries + 1
  | .held _ => 1
def uptoBulkAll {H : Type} : List (DataW H) → Nat
  | [] => 0
  | d :: r => uptoBulk d + uptoBulkAll r
def uptoBulkEntries {H : Type} : List (Lit × DataW H) → Nat
  | [] => 0
  | x :: r => uptoBulkEntry x + uptoBulkEntries r
def uptoBulkEntry {H : Type} : Lit × DataW H → Nat
  | (.string bytes, d) => bytes.length + uptoBulk d + 1
  | (_, d) => uptoBulk d + 1
 end
def uptoSmall : (H : Type) → List (DataW H) → Bool := fun _ ds => decide (uptoBulkAll ds ≤ 1048576)
def OpenSpec.upto (s : _root_.Go.ChangeSpec) : _root_.Go.OpenSpec := { _root_.Go.OpenSpec.ofChange s with cond := some uptoSmall }

/-- 'athanorlaw03.ShapeSizes', WHERE WHAT IT READS IS OF BULK AT MOST 1048576: true; the input reads as it did. -/
def shapeSizesUptoRow : OpenClaim := { program := "ytdefilnjkacepaa", sum := "3a6ddc41a8b802f8ed046b75e722fbc6f4dc8b75d4b535356cd0cef56fe83cf8", func := "athanor/athanorlaw03.ShapeSizes", spec := "shapeSizes", unfollowed := true, recurses := true, apart := false, narrowed := true }
def ShapeSizesUptoSaid : Prop := shapeSizesUptoRow.holds Try.pinned (OpenSpec.upto shapeSizesSpec)

/-- 'athanorlaw03.ShapeWindows', WHERE WHAT IT READS IS OF BULK AT MOST 1048576: true; the input reads as it did. -/
def shapeWindowsUptoRow : OpenClaim := { program := "ytdefilnjkacepaa", sum := "3a6ddc41a8b802f8ed046b75e722fbc6f4dc8b75d4b535356cd0cef56fe83cf8", func := "athanor/athanorlaw03.ShapeWindows", spec := "shapeWindows", unfollowed := true, recurses := true, apart := false, narrowed := true }
def ShapeWindowsUptoSaid : Prop := shapeWindowsUptoRow.holds Try.pinned (OpenSpec.upto shapeWindowsSpec)

/-- 'athanorlaw03.ShapeJoins', WHERE WHAT IT READS IS OF BULK AT MOST 1048576: true; the input reads as it did. -/
def shapeJoinsUptoRow : OpenClaim := { program := "ytdefilnjkacepaa", sum := "3a6ddc41a8b802f8ed046b75e722fbc6f4dc8b75d4b535356cd0cef56fe83cf8", func := "athanor/athanorlaw03.ShapeJoins", spec := "shapeJoins", unfollowed := true, recurses := true, apart := false, narrowed := true }
def ShapeJoinsUptoSaid : Prop := shapeJoinsUptoRow.holds Try.pinned (OpenSpec.upto shapeJoinsSpec)

/-- 'athanorlaw03.ShapeCuts', WHERE WHAT IT READS IS OF BULK AT MOST 1048576: true; the input reads as it did. -/
def shapeCutsUptoRow : OpenClaim := { program := "ytdefilnjkacepaa", sum := "3a6ddc41a8b802f8ed046b75e722fbc6f4dc8b75d4b535356cd0cef56fe83cf8", func := "athanor/athanorlaw03.ShapeCuts", spec := "shapeCuts", unfollowed := true, recurses := true, apart := false, narrowed := true }
def ShapeCutsUptoSaid : Prop := shapeCutsUptoRow.holds Try.pinned (OpenSpec.upto shapeCutsSpec)

/-- 'athanorlaw03.ShapePlaces', WHERE WHAT IT READS IS OF BULK AT MOST 1048576: true; the input reads as it did. -/
def shapePlacesUptoRow : OpenClaim := { program := "ytdefilnjkacepaa", sum := "3a6ddc41a8b802f8ed046b75e722fbc6f4dc8b75d4b535356cd0cef56fe83cf8", func := "athanor/athanorlaw03.ShapePlaces", spec := "shapePlaces", unfollowed := true, recurses := true, apart := false, narrowed := true }
def ShapePlacesUptoSaid : Prop := shapePlacesUptoRow.holds Try.pinned (OpenSpec.upto shapePlacesSpec)

/-- 'athanorlaw03.ShapeAll', WHERE WHAT IT READS IS OF BULK AT MOST 1048576: true; the input reads as it did. -/
def shapeAllUptoRow : OpenClaim := { program := "ytdefilnjkacepaa", sum := "3a6ddc41a8b802f8ed046b75e722fbc6f4dc8b75d4b535356cd0cef56fe83cf8", func := "athanor/athanorlaw03.ShapeAll", spec := "shapeAll", unfollowed := true, recurses := true, apart := false, narrowed := true }
def ShapeAllUptoSaid : Prop := shapeAllUptoRow.holds Try.pinned (OpenSpec.upto shapeAllSpec)

end Rows
end Go.Proofs.Ytdefilnjkacepaa
