/- Laws of package tensor, on the printed functions. Conditions: those of the printed statements (numbers of 64 bits; lists of at most 2^47 - 4096 bytes). -/
import Derived.Test.YtmekcfmhaflghaaPTenx8
import Derived.Test.YtmekcfmhaflghaaAidTensor
set_option linter.unusedSimpArgs false
set_option linter.unusedVariables false
namespace Go.Proofs.Ytmekcfmhaflghaa.LawsTensorC
open Go.RowKit Go.Proofs.Ytmekcfmhaflghaa.PTen Go.Proofs.Ytmekcfmhaflghaa.Aid Go.Proofs.Ytmekcfmhaflghaa.AidShape Go.Proofs.Ytmekcfmhaflghaa.AidTensor Go.Proofs.YtmekcfmhaflghaaW.PrintWords Go.Proofs.YtmekcfmhaflghaaW.PrintLast Go.Proofs.YtmekcfmhaflghaaW.PrintMore
theorem awake_ev : Ev (fun k => athanorlaw04_awake.f k) true := Ev.of (fun k => athanorlaw04_awake.mono k) (k := 60) (by decide +kernel)
theorem aw : Ev (fun k => (athanorlaw04_awake.f k).bind fun t => some t) true := Ev.bind awake_ev (Ev.now _)
theorem small_f (s c : List Int) : athanorlaw04_small.f s c = some (decide (s.length ≤ 50 ∧ c.length ≤ 600)) := by
  unfold athanorlaw04_small.f
  by_cases h : (s.length : Int) ≤ 50
  · rw [if_pos h]; congr 1; rw [decide_eq_decide]; omega
  · rw [if_neg h, decide_eq_false (by omega)]
theorem withT_ev (s c a : List Int) (v : Int) (hs : s.length < 17592186044416) (hc : c.length < 17592186044416) : Ev (fun k => tensor_Grid_fix_F_With.f k s c v a) (if (placeT s c a).2 = 0 then (s, c.set (placeT s c a).1.toNat v, 0) else ([], [], (placeT s c a).2)) := by
  unfold tensor_Grid_fix_F_With.f
  refine Ev.bind (placeT_ev s c a (by omega)) ?_
  by_cases e : (placeT s c a).2 = 0
  · have := placeT_ok e
    simp only [e, if_true, copyT_f s c hs hc, Option.bind_some]; rw [if_pos this.1, if_pos this.2]; exact Ev.now _
  · simp only [e, if_false]; exact Ev.now _
theorem cellsLoop (v : Int) (n : Nat) (s c s' : List Int) (hn : n < c.length) (hc : c.length ≤ 140737488351232) : ∀ (d i : Nat), i + d = c.length →
    Ev (fun k => athanorlaw04_TensorCells.l0 k v (n : Int) (c.length : Int) (i : Int) s c s' (c.set n v)) true := by
  intro d
  induction d with
  | zero =>
    intro i h
    refine Ev.step (fun k => ?_) aw
    simp only [athanorlaw04_TensorCells.l0]; rw [if_neg (by omega)]
  | succ d ih =>
    intro i h
    have hi : i < c.length := by omega
    refine Ev.step (fun k => ?_) (ih (i + 1) (by omega))
    simp only [athanorlaw04_TensorCells.l0, List.length_set]
    rw [if_pos (by omega), w64s hi hc]
    by_cases e : i = n
    · subst e
      rw [if_pos rfl, if_pos (by omega), if_pos (by omega), if_pos (by rw [rd_nat _ _ (by simpa using hi)]; exact List.getElem_set_self _)]
    · rw [if_neg (by omega), if_pos (by omega), if_pos (by omega), if_pos (by omega), if_pos (by rw [rd_nat _ _ (by simpa using hi), rd_nat _ _ hi]; exact List.getElem_set_ne (fun q => e q.symm) _)]
theorem TensorCells : athanorlaw04_TensorCells.Pure := by
  intro z a v hz ha hv
  obtain ⟨s, c⟩ := z
  simp only
  refine Ev.rounds (g := fun k => athanorlaw04_TensorCells.f k s c a v) ?_
  unfold athanorlaw04_TensorCells.f
  simp only [small_f, Option.bind_some, decide_eq_true_eq]
  have big : Ev (fun k => athanorlaw04_TensorCells.j0 k a v true s c) true := Ev.step (fun k => by simp only [athanorlaw04_TensorCells.j0, if_true]) aw
  by_cases h : s.length ≤ 50 ∧ c.length ≤ 600
  · simp only [h, and_self, if_true]
    obtain ⟨h1, h2⟩ := h
    by_cases h3 : (a.length : Int) > 50
    · rw [decide_eq_true h3]; exact big
    · rw [decide_eq_false h3]
      have main : Ev (fun k => (tensor_Grid_fix_F_Get.f k s c a).bind fun bt331 => ((tensor_Grid_fix_F_With.f k s c v a).bind fun bt333 => ((athanorlaw04_right.f k s c).bind fun t341 => (if t341 = true then ((shape_Shape_Place.f k s a).bind fun bt343 => (if bt343.2 = 0 then (if bt331.2 = 0 then (if bt333.2.2 = 0 then (if bt343.1 < 0 then (athanorlaw04_TensorCells.j1 k v bt343.1 true s c bt333.1 bt333.2.1) else (if bt343.1 ≥ (c.length : Int) then (athanorlaw04_TensorCells.j1 k v bt343.1 true s c bt333.1 bt333.2.1) else (if 0 ≤ bt343.1 then (if bt343.1 < (c.length : Int) then (if bt331.1 = (rd c bt343.1) then ((shape_Shape_Equal.f k bt333.1 s).bind fun t347 => (if t347 = true then (athanorlaw04_TensorCells.j1 k v bt343.1 ((bt333.2.1.length : Int) != (c.length : Int)) s c bt333.1 bt333.2.1) else (athanorlaw04_TensorCells.j1 k v bt343.1 true s c bt333.1 bt333.2.1))) else (athanorlaw04_TensorCells.j1 k v bt343.1 true s c bt333.1 bt333.2.1)) else (none)) else (none)))) else (athanorlaw04_TensorCells.j1 k v bt343.1 true s c bt333.1 bt333.2.1)) else (athanorlaw04_TensorCells.j1 k v bt343.1 true s c bt333.1 bt333.2.1)) else (if bt331.2 = bt343.2 then (if bt333.2.2 = bt343.2 then (if bt331.1 = 0 then (if (bt333.2.1.length : Int) = 0 then ((athanorlaw04_awake.f k).bind fun t345 => (some t345)) else (none)) else (none)) else (none)) else (none)))) else (if bt331.2 = 20 then (if bt333.2.2 = 20 then (if (bt333.2.1.length : Int) = 0 then (if bt331.1 = 0 then ((athanorlaw04_awake.f k).bind fun t342 => (some t342)) else (none)) else (none)) else (none)) else (none)))))) true := by
        refine Ev.bind (getT_ev s c a (by omega)) (Ev.bind (withT_ev s c a v (by omega) (by omega)) (Ev.bind (rightL_ev s c) ?_))
        unfold getT
        cases e : rightT s c with
        | false =>
          have e1 : placeT s c a = (0, 20) := by unfold placeT; rw [e]; rfl
          simp only [e1, Bool.false_eq_true, if_false, if_neg (show ¬ ((20 : Int) = 0) by omega), if_true, List.length_nil]
          exact aw
        | true =>
          have e1 : placeT s c a = placeS s a := by unfold placeT; rw [e]; rfl
          simp only [if_true]
          refine Ev.bind (place_ev s a (by omega)) ?_
          rw [e1]
          by_cases f : (placeS s a).2 = 0
          · have ok := placeT_ok (s := s) (c := c) (a := a) (by rw [e1]; exact f)
            rw [e1] at ok
            simp only [f, if_true]
            generalize (placeS s a).1 = p at ok ⊢
            obtain ⟨n, rfl⟩ := Int.eq_ofNat_of_zero_le ok.1
            have hn : n < c.length := by omega
            simp only [if_neg (show ¬ ((n : Int) < 0) by omega), if_neg (show ¬ ((n : Int) ≥ (c.length : Int)) by omega), if_pos ok.1, if_pos ok.2, if_true, Int.toNat_natCast, List.length_set, bne_self_eq_false]
            refine Ev.bind (equal_ev s s (by omega)) ?_
            simp only [decide_true, if_true]
            refine Ev.step (fun k => ?_) (cellsLoop v n s c s hn (by omega) c.length 0 (by omega))
            simp only [athanorlaw04_TensorCells.j1, Bool.false_eq_true, if_false, List.length_set]
            rfl
          · simp only [f, if_false, if_true, List.length_nil]
            exact aw
      refine Ev.step (fun k => ?_) main
      simp only [athanorlaw04_TensorCells.j0, Bool.false_eq_true, if_false]
  · simp only [h, if_false]; exact big
end Go.Proofs.Ytmekcfmhaflghaa.LawsTensorC
