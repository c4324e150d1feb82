/- Law ShapeAll, on the printed functions: all places are told in order, as far as is asked. Conditions: numbers of 64 bits; lists that can be read. -/
import Derived.Test.YtdefilnjkacepaaPAllx5
import Derived.Test.YtdefilnjkacepaaAidShape
set_option linter.unusedSimpArgs false
set_option linter.unusedVariables false
namespace Go.Proofs.Ytdefilnjkacepaa.LawsAll
open Go.RowKit Go.Proofs.Ytdefilnjkacepaa.PAll Go.Proofs.Ytdefilnjkacepaa.Aid Go.Proofs.Ytdefilnjkacepaa.AidShape Go.Proofs.YtdefilnjkacepaaW.PrintWords Go.Proofs.YtdefilnjkacepaaW.PrintLast Go.Proofs.YtdefilnjkacepaaW.PrintMore
theorem awake_ev : Ev (fun k => athanorlaw03_awake.f k) true := Ev.of (fun k => athanorlaw03_awake.mono k) (k := 60) (by decide +kernel)
theorem aw : Ev (fun k => (athanorlaw03_awake.f k).bind fun t => some t) true := Ev.bind awake_ev (Ev.now _)
theorem ShapeAll : athanorlaw03_ShapeAll.Pure := by
  intro s stop _ _ _ _
  refine Ev.rounds (g := fun k => athanorlaw03_ShapeAll.f k s stop) ?_
  have big : Ev (fun k => athanorlaw03_ShapeAll.j0 k s stop true) true := Ev.step (fun k => by simp only [athanorlaw03_ShapeAll.j0, if_true]) aw
  unfold athanorlaw03_ShapeAll.f
  by_cases b1 : ((s.length : Nat) : Int) > 50
  · simp only [b1, if_true]; exact big
  by_cases b2 : stop < 1
  · simp only [b1, b2, if_true, if_false]; exact big
  by_cases b3 : stop > 500
  · simp only [b1, b2, b3, if_true, if_false]; exact big
  simp only [b1, b2, b3, if_false]
  refine Ev.bind awake_ev (Ev.step (fun k => by simp only [athanorlaw03_ShapeAll.j0, Bool.not_true, Bool.false_eq_true, if_false]; rfl) (Ev.bind (refRight_ev s) ?_))
  cases e : rightS s with
  | true =>
    have h : athanorlaw03_walk.f s stop = some true := by unfold athanorlaw03_walk.f AllL.walkF; rw [if_pos ⟨by omega, e, by omega, by omega⟩]
    simp only [if_true, h, Option.bind_some]; exact aw
  | false =>
    have h : athanorlaw03_none.f s = some true := by unfold athanorlaw03_none.f AllL.noneF; rw [if_pos ⟨by omega, e⟩]
    simp only [Bool.false_eq_true, if_false, h, Option.bind_some, if_true]; exact aw
end Go.Proofs.Ytdefilnjkacepaa.LawsAll
