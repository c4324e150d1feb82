/- A region that draws its order, in the body of a range over a function: walked by the plain laws. Conditions: no operation of it defers; the body is not let out. -/
import Derived.Test.YtmekcfmhaflghaaVWLast
import Derived.RangeFuncBox
import Derived.RangeFuncNested
import Derived.RangeFuncBound
import Derived.RangeFuncCalls
import Derived.RangeFuncLeaves
import Derived.Shelf.Abstract
import Derived.Shelf.RegionOpen
import Derived.WalkKit
import Derived.OwnWalkIn
import Derived.TacticsInMore
import Derived.LoopNIn
import Derived.LoopIn
namespace Go.Proofs.Ytmekcfmhaflghaa.AidRound
open Go.RowKit Go.Proofs.YtmekcfmhaflghaaW.PrintLast
theorem rowsIn_of {l n : Nat} {P : Program} {row : String} {args : Array Value} {w : World} {R : Value → World → Prop} (h : Rows P row args w R) : RowsIn (Fence.wide.inRound l) n P row args w R :=
  fun c cs _ => let ⟨v, w', r, s⟩ := h c cs; ⟨v, w', r, stepsIn_wide.2 s⟩
theorem oper_round {l n : Nat} {P : Program} {Q : Exit → Act → World → Prop} {o : Oper} {a : Act} {w : World} {K : Act → World → Prop} (hd : ∀ c, o.op ≠ .defer c) (h : o.wp P a w K Q) : o.wpIn (Fence.wide.inRound l) n P a w K Q := by
  refine ⟨fun _ _ => trivial, ?_⟩
  rw [Oper.semAt_eq _ _ _ hd]
  unfold Oper.wp at h
  generalize (execOp a.eval o).run P w = r at h ⊢
  cases r with
  | ok x w' =>
    cases x with
    | value v => exact h
    | skip => exact h
    | defer d => exact h
    | enter f args => exact ⟨(fun e => by cases e), CallsIn.inRound l (callsIn_wide.2 h)⟩
    | row row args => exact ⟨(fun e => by cases e), rowsIn_of h⟩
    | _ => exact h.elim
  | halt y w' =>
    cases y with
    | panic v => exact h
    | _ => exact h.elim
theorem any_round {l n : Nat} {P : Program} {Q : Exit → Act → World → Prop} {md : Region.Mode} {ops : Array Oper} (hQ : ¬ LetsOut Q) (hd : ∀ (i : Nat) o, ops[i]? = some o → ∀ c, o.op ≠ .defer c) :
    ∀ (fuel : Nat) (listed : Array Bool) (a : Act) (w : World), wpAny P md ops Q fuel listed a w → wpAnyIn (Fence.wide.inRound l) n P md ops Q fuel listed a w := by
  intro fuel
  induction fuel with
  | zero => intro listed a w h; exact h
  | succ fuel ih =>
    intro listed a w h
    refine ⟨h.1, fun i hi => ?_⟩
    have hi' := h.2 i hi
    unfold wpOp at hi'
    unfold wpOpIn
    cases ho : ops[i]? with
    | none => rw [ho] at hi'; exact ih _ _ _ hi'
    | some o =>
      rw [ho] at hi'
      simp only at hi' ⊢
      split
      · rename_i hw
        rw [if_pos hw] at hi'
        rcases hi' with hi' | ⟨_, hi'⟩
        · exact Oper.wpIn_mono (fun a w hk => ih _ a w hk) (oper_round (hd i o ho) hi')
        · exact absurd hi' hQ
      · rename_i hw
        rw [if_neg hw] at hi'
        exact ⟨fun _ _ => trivial, ih _ _ _ hi'⟩
theorem start_round {l m n id : Nat} {P : Program} {ops : Array Oper} {Q : Exit → Act → World → Prop} {S : World → Prop} {ds : List Nat} {a : Act} {w : World} (li : Array Bool) (hm : P.follows .mixedOrders = true) (hn : ops.size = n) (hl : Array.replicate n false = li)
    (hQ : ¬ LetsOut Q) (hd : ops.all (fun o => match o.op with | .defer _ => false | _ => true) = true) (hS : S w.drew) (h : S w.drew → wpAnyLast P .any ops Q S ds n li a w.drew) : (Code.region id ops true).wpIn (Fence.wide.inRound l) m P Q a w := by
  subst hn
  subst hl
  refine wpIn_region_any hm (any_round hQ (fun i o ho c hc => ?_) _ _ _ _ (wpAny_of_last _ _ _ _ (h hS)))
  have h1 := Array.all_eq_true.1 hd i (Array.getElem?_eq_some_iff.1 ho).1
  rw [(Array.getElem?_eq_some_iff.1 ho).2, hc] at h1
  cases h1
/- The same, outside a round. -/
theorem rowsIn_wide {n : Nat} {P : Program} {row : String} {args : Array Value} {w : World} {R : Value → World → Prop} (h : Rows P row args w R) : RowsIn Fence.wide n P row args w R :=
  fun c cs _ => let ⟨v, w', r, s⟩ := h c cs; ⟨v, w', r, stepsIn_wide.2 s⟩
theorem oper_wide {n : Nat} {P : Program} {Q : Exit → Act → World → Prop} {o : Oper} {a : Act} {w : World} {K : Act → World → Prop} (hd : ∀ c, o.op ≠ .defer c) (h : o.wp P a w K Q) : o.wpIn Fence.wide n P a w K Q := by
  refine ⟨fun _ _ => trivial, ?_⟩
  rw [Oper.semAt_eq _ _ _ hd]
  unfold Oper.wp at h
  generalize (execOp a.eval o).run P w = r at h ⊢
  cases r with
  | ok x w' =>
    cases x with
    | value v => exact h
    | skip => exact h
    | defer d => exact h
    | enter f args => exact ⟨(fun e => by cases e), callsIn_wide.2 h⟩
    | row row args => exact ⟨(fun e => by cases e), rowsIn_wide h⟩
    | _ => exact h.elim
  | halt y w' =>
    cases y with
    | panic v => exact h
    | _ => exact h.elim
theorem any_wide {n : Nat} {P : Program} {Q : Exit → Act → World → Prop} {md : Region.Mode} {ops : Array Oper} (hQ : ¬ LetsOut Q) (hd : ∀ (i : Nat) o, ops[i]? = some o → ∀ c, o.op ≠ .defer c) :
    ∀ (fuel : Nat) (listed : Array Bool) (a : Act) (w : World), wpAny P md ops Q fuel listed a w → wpAnyIn Fence.wide n P md ops Q fuel listed a w := by
  intro fuel
  induction fuel with
  | zero => intro listed a w h; exact h
  | succ fuel ih =>
    intro listed a w h
    refine ⟨h.1, fun i hi => ?_⟩
    have hi' := h.2 i hi
    unfold wpOp at hi'
    unfold wpOpIn
    cases ho : ops[i]? with
    | none => rw [ho] at hi'; exact ih _ _ _ hi'
    | some o =>
      rw [ho] at hi'
      simp only at hi' ⊢
      split
      · rename_i hw
        rw [if_pos hw] at hi'
        rcases hi' with hi' | ⟨_, hi'⟩
        · exact Oper.wpIn_mono (fun a w hk => ih _ a w hk) (oper_wide (hd i o ho) hi')
        · exact absurd hi' hQ
      · rename_i hw
        rw [if_neg hw] at hi'
        exact ⟨fun _ _ => trivial, ih _ _ _ hi'⟩
theorem start_wide {m n id : Nat} {P : Program} {ops : Array Oper} {Q : Exit → Act → World → Prop} {S : World → Prop} {ds : List Nat} {a : Act} {w : World} (li : Array Bool) (hm : P.follows .mixedOrders = true) (hn : ops.size = n) (hl : Array.replicate n false = li)
    (hQ : ¬ LetsOut Q) (hd : ops.all (fun o => match o.op with | .defer _ => false | _ => true) = true) (hS : S w.drew) (h : S w.drew → wpAnyLast P .any ops Q S ds n li a w.drew) : (Code.region id ops true).wpIn Fence.wide m P Q a w := by
  subst hn
  subst hl
  refine wpIn_region_any hm (any_wide hQ (fun i o ho c hc => ?_) _ _ _ _ (wpAny_of_last _ _ _ _ (h hS)))
  have h1 := Array.all_eq_true.1 hd i (Array.getElem?_eq_some_iff.1 ho).1
  rw [(Array.getElem?_eq_some_iff.1 ho).2, hc] at h1
  cases h1
/-- Only the normal way on. -/
def nrm (Q : Exit → Act → World → Prop) : Exit → Act → World → Prop
  | .normal, a, w => Q .normal a w
  | _, _, _ => False
theorem nrm_le {Q : Exit → Act → World → Prop} : ∀ e a w, nrm Q e a w → Q e a w := fun e a w h => by cases e <;> first | exact h | exact h.elim
theorem nrm_out {Q : Exit → Act → World → Prop} : ¬ LetsOut (nrm Q) := by rintro ⟨a, w, h⟩; exact h
theorem start_wideN {m n id : Nat} {P : Program} {ops : Array Oper} {Q : Exit → Act → World → Prop} {S : World → Prop} {ds : List Nat} {a : Act} {w : World} (li : Array Bool) (hm : P.follows .mixedOrders = true) (hn : ops.size = n) (hl : Array.replicate n false = li)
    (hd : ops.all (fun o => match o.op with | .defer _ => false | _ => true) = true) (hS : S w.drew) (h : S w.drew → wpAnyLast P .any ops (nrm Q) S ds n li a w.drew) : (Code.region id ops true).wpIn Fence.wide m P Q a w :=
  wpIn_mono (start_wide li hm hn hl nrm_out hd hS h) nrm_le
theorem start_roundN {l m n id : Nat} {P : Program} {ops : Array Oper} {Q : Exit → Act → World → Prop} {S : World → Prop} {ds : List Nat} {a : Act} {w : World} (li : Array Bool) (hm : P.follows .mixedOrders = true) (hn : ops.size = n) (hl : Array.replicate n false = li)
    (hd : ops.all (fun o => match o.op with | .defer _ => false | _ => true) = true) (hS : S w.drew) (h : S w.drew → wpAnyLast P .any ops (nrm Q) S ds n li a w.drew) : (Code.region id ops true).wpIn (Fence.wide.inRound l) m P Q a w :=
  wpIn_mono (start_round li hm hn hl nrm_out hd hS h) nrm_le
theorem done_N {P : Program} {md : Region.Mode} {ops : Array Oper} {Q : Exit → Act → World → Prop} {S : World → Prop} {ds : List Nat} {l : Array Bool} {a : Act} {w : World} {n : Nat} (hr : (Region.ready md ops l == []) = true) (h : Q .normal a w) : wpAnyLast P md ops (nrm Q) S ds n l a w := done_ hr h
end Go.Proofs.Ytmekcfmhaflghaa.AidRound
