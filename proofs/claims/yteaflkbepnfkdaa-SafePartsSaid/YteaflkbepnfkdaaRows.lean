/-
  No cell of these rows narrows 'for every input' (looked for: loops, veiled, ifaces, maps, wideKeys, modest, calm, conditions, laid).
  DERIVED. THE GIVEN ROWS OF THIS SEAT. 5 by the template 'for every input the law returns true; each argument reads behind the call as it read before'; 0 by the template 'total and deterministic' (their statements: YteaflkbepnfkdaaTotals.lean).
  GIVEN WITH THE SEED: the statements are not yours to turn. If you find one false, say at which input.
  Laid BY PROGRAM, IN A SANDBOX (cutbox-rows.mjs): the forced cells as the released guide's own fill.sh prints them over the translation dc5d592dfc23fe9d… (all of the seat's roots in one cut). By AI agents, Wed Nov 11 2026. No macro, syntax, notation, axiom, sorry.
-/
import Derived.Test.YteaflkbepnfkdaaChecked
import GoSem.Claim
import GoSem.ClaimJoined
import GoSem.ClaimMapViews
import Derived.JoinedTies
import Derived.KernelRfl
namespace Go.Proofs.Yteaflkbepnfkdaa
/- THE CELL 'sum', in the pinned program and in every row, IS THE sha256 OF THE DUMP (.gsa) THAT YteaflkbepnfkdaaProg.lean LOADS. Nothing in Lean hashes anything: it is a label: what it is worth is what the hold of that sum in a sandbox is worth. -/
noncomputable def Try.pinned : Pinned := { name := "yteaflkbepnfkdaa", sum := "dc5d592dfc23fe9d84f9bd3d20f53ef7b7dce2b143cece6056cefb4a470d9a6d", checked := Try.checked }
namespace Rows
def none {H : Type} : Left H := { results := [], args := [] }

/-- 'athanorlaw02.SafeSums': WHATEVER THE INPUT: true; the input reads as it did. -/
def safeSumsSpec : ChangeSpec := { name := "safeSums", fn := fun _ => fun
  | [d] => { results := [.lit (.bool true)], args := [d] }
  | _ => none }
def safeSumsRow : OpenClaim := { program := "yteaflkbepnfkdaa", sum := "dc5d592dfc23fe9d84f9bd3d20f53ef7b7dce2b143cece6056cefb4a470d9a6d", func := "athanor/athanorlaw02.SafeSums", spec := "safeSums", unfollowed := true, recurses := true, apart := false }
def SafeSumsSaid : Prop := safeSumsRow.holds Try.pinned (OpenSpec.ofChange safeSumsSpec)

/-- ITS FALSE NEIGHBOUR: 'it returns false'. Refute it at one input. -/
def safeSumsWrong : ChangeSpec := { name := "safeSums", fn := fun _ => fun
  | [d] => { results := [.lit (.bool false)], args := [d] }
  | _ => none }
def SafeSumsWrongFalsely : Prop := safeSumsRow.holds Try.pinned (OpenSpec.ofChange safeSumsWrong)

/-- 'athanorlaw02.SafeProducts': WHATEVER THE INPUT: true; the input reads as it did. -/
def safeProductsSpec : ChangeSpec := { name := "safeProducts", fn := fun _ => fun
  | [d] => { results := [.lit (.bool true)], args := [d] }
  | _ => none }
def safeProductsRow : OpenClaim := { program := "yteaflkbepnfkdaa", sum := "dc5d592dfc23fe9d84f9bd3d20f53ef7b7dce2b143cece6056cefb4a470d9a6d", func := "athanor/athanorlaw02.SafeProducts", spec := "safeProducts", unfollowed := true, recurses := true, apart := false }
def SafeProductsSaid : Prop := safeProductsRow.holds Try.pinned (OpenSpec.ofChange safeProductsSpec)

/-- ITS FALSE NEIGHBOUR: 'it returns false'. Refute it at one input. -/
def safeProductsWrong : ChangeSpec := { name := "safeProducts", fn := fun _ => fun
  | [d] => { results := [.lit (.bool false)], args := [d] }
  | _ => none }
def SafeProductsWrongFalsely : Prop := safeProductsRow.holds Try.pinned (OpenSpec.ofChange safeProductsWrong)

/-- 'athanorlaw02.SafeRoots': WHATEVER THE INPUT: true; the input reads as it did. -/
def safeRootsSpec : ChangeSpec := { name := "safeRoots", fn := fun _ => fun
  | [d] => { results := [.lit (.bool true)], args := [d] }
  | _ => none }
def safeRootsRow : OpenClaim := { program := "yteaflkbepnfkdaa", sum := "dc5d592dfc23fe9d84f9bd3d20f53ef7b7dce2b143cece6056cefb4a470d9a6d", func := "athanor/athanorlaw02.SafeRoots", spec := "safeRoots", unfollowed := true, recurses := true, apart := false }
def SafeRootsSaid : Prop := safeRootsRow.holds Try.pinned (OpenSpec.ofChange safeRootsSpec)

/-- ITS FALSE NEIGHBOUR: 'it returns false'. Refute it at one input. -/
def safeRootsWrong : ChangeSpec := { name := "safeRoots", fn := fun _ => fun
  | [d] => { results := [.lit (.bool false)], args := [d] }
  | _ => none }
def SafeRootsWrongFalsely : Prop := safeRootsRow.holds Try.pinned (OpenSpec.ofChange safeRootsWrong)

/-- 'athanorlaw02.SafeTurned': WHATEVER THE INPUT: true; the input reads as it did. -/
def safeTurnedSpec : ChangeSpec := { name := "safeTurned", fn := fun _ => fun
  | [d] => { results := [.lit (.bool true)], args := [d] }
  | _ => none }
def safeTurnedRow : OpenClaim := { program := "yteaflkbepnfkdaa", sum := "dc5d592dfc23fe9d84f9bd3d20f53ef7b7dce2b143cece6056cefb4a470d9a6d", func := "athanor/athanorlaw02.SafeTurned", spec := "safeTurned", unfollowed := true, recurses := true, apart := false }
def SafeTurnedSaid : Prop := safeTurnedRow.holds Try.pinned (OpenSpec.ofChange safeTurnedSpec)

/-- ITS FALSE NEIGHBOUR: 'it returns false'. Refute it at one input. -/
def safeTurnedWrong : ChangeSpec := { name := "safeTurned", fn := fun _ => fun
  | [d] => { results := [.lit (.bool false)], args := [d] }
  | _ => none }
def SafeTurnedWrongFalsely : Prop := safeTurnedRow.holds Try.pinned (OpenSpec.ofChange safeTurnedWrong)

/-- 'athanorlaw02.SafeParts': WHATEVER THE INPUT: true; the input reads as it did. -/
def safePartsSpec : ChangeSpec := { name := "safeParts", fn := fun _ => fun
  | [d1, d2, d3] => { results := [.lit (.bool true)], args := [d1, d2, d3] }
  | _ => none }
def safePartsRow : OpenClaim := { program := "yteaflkbepnfkdaa", sum := "dc5d592dfc23fe9d84f9bd3d20f53ef7b7dce2b143cece6056cefb4a470d9a6d", func := "athanor/athanorlaw02.SafeParts", spec := "safeParts", unfollowed := true, recurses := true, apart := false }
def SafePartsSaid : Prop := safePartsRow.holds Try.pinned (OpenSpec.ofChange safePartsSpec)

/-- ITS FALSE NEIGHBOUR: 'it returns false'. Refute it at one input. -/
def safePartsWrong : ChangeSpec := { name := "safeParts", fn := fun _ => fun
  | [d1, d2, d3] => { results := [.lit (.bool false)], args := [d1, d2, d3] }
  | _ => none }
def SafePartsWrongFalsely : Prop := safePartsRow.holds Try.pinned (OpenSpec.ofChange safePartsWrong)

/- THE SECOND FORM. 'bulk': how many values and letters a reading holds, each counted each time it is reached (what is shared counts as often as it is met; a slice's spare places count too). A statement '..UptoSaid' is the law's where the arguments, and the package variables that the reading takes, are together of bulk at most 1048576: NARROWER than '..Said'. Prove '..Said' where nothing that the law and all that it calls make is longer than what came in: it says more and counts as full. Else prove '..UptoSaid'. A law counts once. -/
mutual
def uptoBulk {H : Type} : DataW H → Nat
  | .lit (.string bytes) => bytes.length + 1
  | .lit _ => 1
  | .nil => 1
  | .ptr d => uptoBulk d + 1
  | .slice elems spare => uptoBulkAll elems + uptoBulkAll spare + 1
  | .agg parts => uptoBulkAll parts + 1
  | .iface _ d => uptoBulk d + 1
  | .map entries => uptoBulkEntries entries + 1
  | .held _ => 1
def uptoBulkAll {H : Type} : List (DataW H) → Nat
  | [] => 0
  | d :: r => uptoBulk d + uptoBulkAll r
def uptoBulkEntries {H : Type} : List (Lit × DataW H) → Nat
  | [] => 0
  | x :: r => uptoBulkEntry x + uptoBulkEntries r
def uptoBulkEntry {H : Type} : Lit × DataW H → Nat
  | (.string bytes, d) => bytes.length + uptoBulk d + 1
  | (_, d) => uptoBulk d + 1
 end
def uptoSmall : (H : Type) → List (DataW H) → Bool := fun _ ds => decide (uptoBulkAll ds ≤ 1048576)
def OpenSpec.upto (s : _root_.Go.ChangeSpec) : _root_.Go.OpenSpec := { _root_.Go.OpenSpec.ofChange s with cond := some uptoSmall }

/-- 'athanorlaw02.SafeSums', WHERE WHAT IT READS IS OF BULK AT MOST 1048576: true; the input reads as it did. -/
def safeSumsUptoRow : OpenClaim := { program := "yteaflkbepnfkdaa", sum := "dc5d592dfc23fe9d84f9bd3d20f53ef7b7dce2b143cece6056cefb4a470d9a6d", func := "athanor/athanorlaw02.SafeSums", spec := "safeSums", unfollowed := true, recurses := true, apart := false, narrowed := true }
def SafeSumsUptoSaid : Prop := safeSumsUptoRow.holds Try.pinned (OpenSpec.upto safeSumsSpec)

/-- 'athanorlaw02.SafeProducts', WHERE WHAT IT READS IS OF BULK AT MOST 1048576: true; the input reads as it did. -/
def safeProductsUptoRow : OpenClaim := { program := "yteaflkbepnfkdaa", sum := "dc5d592dfc23fe9d84f9bd3d20f53ef7b7dce2b143cece6056cefb4a470d9a6d", func := "athanor/athanorlaw02.SafeProducts", spec := "safeProducts", unfollowed := true, recurses := true, apart := false, narrowed := true }
def SafeProductsUptoSaid : Prop := safeProductsUptoRow.holds Try.pinned (OpenSpec.upto safeProductsSpec)

/-- 'athanorlaw02.SafeRoots', WHERE WHAT IT READS IS OF BULK AT MOST 1048576: true; the input reads as it did. -/
def safeRootsUptoRow : OpenClaim := { program := "yteaflkbepnfkdaa", sum := "dc5d592dfc23fe9d84f9bd3d20f53ef7b7dce2b143cece6056cefb4a470d9a6d", func := "athanor/athanorlaw02.SafeRoots", spec := "safeRoots", unfollowed := true, recurses := true, apart := false, narrowed := true }
def SafeRootsUptoSaid : Prop := safeRootsUptoRow.holds Try.pinned (OpenSpec.upto safeRootsSpec)

/-- 'athanorlaw02.SafeTurned', WHERE WHAT IT READS IS OF BULK AT MOST 1048576: true; the input reads as it did. -/
def safeTurnedUptoRow : OpenClaim := { program := "yteaflkbepnfkdaa", sum := "dc5d592dfc23fe9d84f9bd3d20f53ef7b7dce2b143cece6056cefb4a470d9a6d", func := "athanor/athanorlaw02.SafeTurned", spec := "safeTurned", unfollowed := true, recurses := true, apart := false, narrowed := true }
def SafeTurnedUptoSaid : Prop := safeTurnedUptoRow.holds Try.pinned (OpenSpec.upto safeTurnedSpec)

/-- 'athanorlaw02.SafeParts', WHERE WHAT IT READS IS OF BULK AT MOST 1048576: true; the input reads as it did. -/
def safePartsUptoRow : OpenClaim := { program := "yteaflkbepnfkdaa", sum := "dc5d592dfc23fe9d84f9bd3d20f53ef7b7dce2b143cece6056cefb4a470d9a6d", func := "athanor/athanorlaw02.SafeParts", spec := "safeParts", unfollowed := true, recurses := true, apart := false, narrowed := true }
def SafePartsUptoSaid : Prop := safePartsUptoRow.holds Try.pinned (OpenSpec.upto safePartsSpec)

end Rows
end Go.Proofs.Yteaflkbepnfkdaa
