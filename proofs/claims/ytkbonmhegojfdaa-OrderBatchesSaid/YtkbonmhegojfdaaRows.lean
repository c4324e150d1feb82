/-
  No cell of these rows narrows 'for every input' (looked for: loops, veiled, ifaces, maps, wideKeys, modest, calm, conditions, laid).
  DERIVED. THE GIVEN ROWS OF THIS SEAT. 5 by the template 'for every input the law returns true; each argument reads behind the call as it read before'; 0 by the template 'total and deterministic' (their statements: YtkbonmhegojfdaaTotals.lean).
  GIVEN WITH THE SEED: the statements are not yours to turn. If you find one false, say at which input.
  Laid BY PROGRAM, IN A SANDBOX (cutbox-rows.mjs): the forced cells as the released guide's own fill.sh prints them over the translation e0146d53744b79dc… (all of the seat's roots in one cut). By AI agents, Wed Nov 11 2026. No macro, syntax, notation, axiom, sorry.
-/
import Derived.Test.YtkbonmhegojfdaaChecked
import GoSem.Claim
import GoSem.ClaimJoined
import GoSem.ClaimMapViews
import Derived.JoinedTies
import Derived.KernelRfl
namespace Go.Proofs.Ytkbonmhegojfdaa
/- THE CELL 'sum', in the pinned program and in every row, IS THE sha256 OF THE DUMP (.gsa) THAT YtkbonmhegojfdaaProg.lean LOADS. Nothing in Lean hashes anything: it is a label: what it is worth is what the hold of that sum in a sandbox is worth. -/
noncomputable def Try.pinned : Pinned := { name := "ytkbonmhegojfdaa", sum := "e0146d53744b79dc2784136ffb9b70cf6b853f80346a7f159aa8854c5d49f9b5", checked := Try.checked }
namespace Rows
def none {H : Type} : Left H := { results := [], args := [] }

/-- 'athanorlaw25.OrderMixes': WHATEVER THE INPUT: true; the input reads as it did. -/
def orderMixesSpec : ChangeSpec := { name := "orderMixes", fn := fun _ => fun
  | [d1, d2] => { results := [.lit (.bool true)], args := [d1, d2] }
  | _ => none }
def orderMixesRow : OpenClaim := { program := "ytkbonmhegojfdaa", sum := "e0146d53744b79dc2784136ffb9b70cf6b853f80346a7f159aa8854c5d49f9b5", func := "athanor/athanorlaw25.OrderMixes", spec := "orderMixes", unfollowed := true, recurses := true, apart := false }
def OrderMixesSaid : Prop := orderMixesRow.holds Try.pinned (OpenSpec.ofChange orderMixesSpec)

/-- ITS FALSE NEIGHBOUR: 'it returns false'. Refute it at one input. -/
def orderMixesWrong : ChangeSpec := { name := "orderMixes", fn := fun _ => fun
  | [d1, d2] => { results := [.lit (.bool false)], args := [d1, d2] }
  | _ => none }
def OrderMixesWrongFalsely : Prop := orderMixesRow.holds Try.pinned (OpenSpec.ofChange orderMixesWrong)

/-- 'athanorlaw25.OrderInverts': WHATEVER THE INPUT: true; the input reads as it did. -/
def orderInvertsSpec : ChangeSpec := { name := "orderInverts", fn := fun _ => fun
  | [d] => { results := [.lit (.bool true)], args := [d] }
  | _ => none }
def orderInvertsRow : OpenClaim := { program := "ytkbonmhegojfdaa", sum := "e0146d53744b79dc2784136ffb9b70cf6b853f80346a7f159aa8854c5d49f9b5", func := "athanor/athanorlaw25.OrderInverts", spec := "orderInverts", unfollowed := true, recurses := true, apart := false }
def OrderInvertsSaid : Prop := orderInvertsRow.holds Try.pinned (OpenSpec.ofChange orderInvertsSpec)

/-- ITS FALSE NEIGHBOUR: 'it returns false'. Refute it at one input. -/
def orderInvertsWrong : ChangeSpec := { name := "orderInverts", fn := fun _ => fun
  | [d] => { results := [.lit (.bool false)], args := [d] }
  | _ => none }
def OrderInvertsWrongFalsely : Prop := orderInvertsRow.holds Try.pinned (OpenSpec.ofChange orderInvertsWrong)

/-- 'athanorlaw25.OrderBatches': WHATEVER THE INPUT: true; the input reads as it did. -/
def orderBatchesSpec : ChangeSpec := { name := "orderBatches", fn := fun _ => fun
  | [d1, d2] => { results := [.lit (.bool true)], args := [d1, d2] }
  | _ => none }
def orderBatchesRow : OpenClaim := { program := "ytkbonmhegojfdaa", sum := "e0146d53744b79dc2784136ffb9b70cf6b853f80346a7f159aa8854c5d49f9b5", func := "athanor/athanorlaw25.OrderBatches", spec := "orderBatches", unfollowed := true, recurses := true, apart := false }
def OrderBatchesSaid : Prop := orderBatchesRow.holds Try.pinned (OpenSpec.ofChange orderBatchesSpec)

/-- ITS FALSE NEIGHBOUR: 'it returns false'. Refute it at one input. -/
def orderBatchesWrong : ChangeSpec := { name := "orderBatches", fn := fun _ => fun
  | [d1, d2] => { results := [.lit (.bool false)], args := [d1, d2] }
  | _ => none }
def OrderBatchesWrongFalsely : Prop := orderBatchesRow.holds Try.pinned (OpenSpec.ofChange orderBatchesWrong)

/-- 'athanorlaw25.OrderFeeds': WHATEVER THE INPUT: true; the input reads as it did. -/
def orderFeedsSpec : ChangeSpec := { name := "orderFeeds", fn := fun _ => fun
  | [d1, d2] => { results := [.lit (.bool true)], args := [d1, d2] }
  | _ => none }
def orderFeedsRow : OpenClaim := { program := "ytkbonmhegojfdaa", sum := "e0146d53744b79dc2784136ffb9b70cf6b853f80346a7f159aa8854c5d49f9b5", func := "athanor/athanorlaw25.OrderFeeds", spec := "orderFeeds", unfollowed := true, recurses := true, apart := false }
def OrderFeedsSaid : Prop := orderFeedsRow.holds Try.pinned (OpenSpec.ofChange orderFeedsSpec)

/-- ITS FALSE NEIGHBOUR: 'it returns false'. Refute it at one input. -/
def orderFeedsWrong : ChangeSpec := { name := "orderFeeds", fn := fun _ => fun
  | [d1, d2] => { results := [.lit (.bool false)], args := [d1, d2] }
  | _ => none }
def OrderFeedsWrongFalsely : Prop := orderFeedsRow.holds Try.pinned (OpenSpec.ofChange orderFeedsWrong)

/-- 'athanorlaw25.OrderSame': WHATEVER THE INPUT: true; the input reads as it did. -/
def orderSameSpec : ChangeSpec := { name := "orderSame", fn := fun _ => fun
  | [d1, d2] => { results := [.lit (.bool true)], args := [d1, d2] }
  | _ => none }
def orderSameRow : OpenClaim := { program := "ytkbonmhegojfdaa", sum := "e0146d53744b79dc2784136ffb9b70cf6b853f80346a7f159aa8854c5d49f9b5", func := "athanor/athanorlaw25.OrderSame", spec := "orderSame", unfollowed := true, recurses := true, apart := false }
def OrderSameSaid : Prop := orderSameRow.holds Try.pinned (OpenSpec.ofChange orderSameSpec)

/-- ITS FALSE NEIGHBOUR: 'it returns false'. Refute it at one input. -/
def orderSameWrong : ChangeSpec := { name := "orderSame", fn := fun _ => fun
  | [d1, d2] => { results := [.lit (.bool false)], args := [d1, d2] }
  | _ => none }
def OrderSameWrongFalsely : Prop := orderSameRow.holds Try.pinned (OpenSpec.ofChange orderSameWrong)

/- THE SECOND FORM. 'bulk': how many values and letters a reading holds, each counted each time it is reached (what is shared counts as often as it is met; a slice's spare places count too). A statement '..UptoSaid' is the law's where the arguments, and the package variables that the reading takes, are together of bulk at most 1048576: NARROWER than '..Said'. Prove '..Said' where nothing that the law and all that it calls make is longer than what came in: it says more and counts as full. Else prove '..UptoSaid'. A law counts once. -/
mutual
def uptoBulk {H : Type} : DataW H → Nat
  | .lit (.string bytes) => bytes.length + 1
  | .lit _ => 1
  | .nil => 1
  | .ptr d => uptoBulk d + 1
  | .slice elems spare => uptoBulkAll elems + uptoBulkAll spare + 1
  | .agg parts => uptoBulkAll parts + 1
  | .iface _ d => uptoBulk d + 1
  | .map entries => uptoBulkEntries entries + 1
  | .held _ => 1
def uptoBulkAll {H : Type} : List (DataW H) → Nat
  | [] => 0
  | d :: r => uptoBulk d + uptoBulkAll r
def uptoBulkEntries {H : Type} : List (Lit × DataW H) → Nat
  | [] => 0
  | x :: r => uptoBulkEntry x + uptoBulkEntries r
def uptoBulkEntry {H : Type} : Lit × DataW H → Nat
  | (.string bytes, d) => bytes.length + uptoBulk d + 1
  | (_, d) => uptoBulk d + 1
 end
def uptoSmall : (H : Type) → List (DataW H) → Bool := fun _ ds => decide (uptoBulkAll ds ≤ 1048576)
def OpenSpec.upto (s : _root_.Go.ChangeSpec) : _root_.Go.OpenSpec := { _root_.Go.OpenSpec.ofChange s with cond := some uptoSmall }

/-- 'athanorlaw25.OrderMixes', WHERE WHAT IT READS IS OF BULK AT MOST 1048576: true; the input reads as it did. -/
def orderMixesUptoRow : OpenClaim := { program := "ytkbonmhegojfdaa", sum := "e0146d53744b79dc2784136ffb9b70cf6b853f80346a7f159aa8854c5d49f9b5", func := "athanor/athanorlaw25.OrderMixes", spec := "orderMixes", unfollowed := true, recurses := true, apart := false, narrowed := true }
def OrderMixesUptoSaid : Prop := orderMixesUptoRow.holds Try.pinned (OpenSpec.upto orderMixesSpec)

/-- 'athanorlaw25.OrderInverts', WHERE WHAT IT READS IS OF BULK AT MOST 1048576: true; the input reads as it did. -/
def orderInvertsUptoRow : OpenClaim := { program := "ytkbonmhegojfdaa", sum := "e0146d53744b79dc2784136ffb9b70cf6b853f80346a7f159aa8854c5d49f9b5", func := "athanor/athanorlaw25.OrderInverts", spec := "orderInverts", unfollowed := true, recurses := true, apart := false, narrowed := true }
def OrderInvertsUptoSaid : Prop := orderInvertsUptoRow.holds Try.pinned (OpenSpec.upto orderInvertsSpec)

/-- 'athanorlaw25.OrderBatches', WHERE WHAT IT READS IS OF BULK AT MOST 1048576: true; the input reads as it did. -/
def orderBatchesUptoRow : OpenClaim := { program := "ytkbonmhegojfdaa", sum := "e0146d53744b79dc2784136ffb9b70cf6b853f80346a7f159aa8854c5d49f9b5", func := "athanor/athanorlaw25.OrderBatches", spec := "orderBatches", unfollowed := true, recurses := true, apart := false, narrowed := true }
def OrderBatchesUptoSaid : Prop := orderBatchesUptoRow.holds Try.pinned (OpenSpec.upto orderBatchesSpec)

/-- 'athanorlaw25.OrderFeeds', WHERE WHAT IT READS IS OF BULK AT MOST 1048576: true; the input reads as it did. -/
def orderFeedsUptoRow : OpenClaim := { program := "ytkbonmhegojfdaa", sum := "e0146d53744b79dc2784136ffb9b70cf6b853f80346a7f159aa8854c5d49f9b5", func := "athanor/athanorlaw25.OrderFeeds", spec := "orderFeeds", unfollowed := true, recurses := true, apart := false, narrowed := true }
def OrderFeedsUptoSaid : Prop := orderFeedsUptoRow.holds Try.pinned (OpenSpec.upto orderFeedsSpec)

/-- 'athanorlaw25.OrderSame', WHERE WHAT IT READS IS OF BULK AT MOST 1048576: true; the input reads as it did. -/
def orderSameUptoRow : OpenClaim := { program := "ytkbonmhegojfdaa", sum := "e0146d53744b79dc2784136ffb9b70cf6b853f80346a7f159aa8854c5d49f9b5", func := "athanor/athanorlaw25.OrderSame", spec := "orderSame", unfollowed := true, recurses := true, apart := false, narrowed := true }
def OrderSameUptoSaid : Prop := orderSameUptoRow.holds Try.pinned (OpenSpec.upto orderSameSpec)

end Rows
end Go.Proofs.Ytkbonmhegojfdaa
