/- Laws of package tensor, on the printed functions. Conditions: those of the printed statements (numbers of 64 bits; lists of at most 2^47 - 4096 bytes). -/
import Derived.Test.YtmekcfmhaflghaaPTenx6
import Derived.Test.YtmekcfmhaflghaaAidTensor
set_option linter.unusedSimpArgs false
set_option linter.unusedVariables false
namespace Go.Proofs.Ytmekcfmhaflghaa.LawsTensorM
open Go.RowKit Go.Proofs.Ytmekcfmhaflghaa.PTen Go.Proofs.Ytmekcfmhaflghaa.Aid Go.Proofs.Ytmekcfmhaflghaa.AidShape Go.Proofs.Ytmekcfmhaflghaa.AidTensor Go.Proofs.YtmekcfmhaflghaaW.PrintWords Go.Proofs.YtmekcfmhaflghaaW.PrintLast Go.Proofs.YtmekcfmhaflghaaW.PrintMore
theorem awake_ev : Ev (fun k => athanorlaw04_awake.f k) true := Ev.of (fun k => athanorlaw04_awake.mono k) (k := 60) (by decide +kernel)
theorem aw : Ev (fun k => (athanorlaw04_awake.f k).bind fun t => some t) true := Ev.bind awake_ev (Ev.now _)
theorem small_f (s c : List Int) : athanorlaw04_small.f s c = some (decide (s.length ≤ 50 ∧ c.length ≤ 600)) := by
  unfold athanorlaw04_small.f
  by_cases h : (s.length : Int) ≤ 50
  · rw [if_pos h]; congr 1; rw [decide_eq_decide]; omega
  · rw [if_neg h, decide_eq_false (by omega)]
theorem l1Loop (x1 x8 : Int) (m s c o0 o1 : List Int) (hm : m.length ≤ 140737488351232) (hx : ∀ x ∈ m, x = x1)
    (tail : Ev (fun k => (athanorlaw04_right.f k s c).bind fun t451 => (if ((x8 == 0) == t451) = true then (if x8 = 0 then ((tensor_Equal_fix_F.f k o0 o1 s c).bind fun t452 => (if t452 = true then ((athanorlaw04_awake.f k).bind fun t453 => (some t453)) else (none))) else ((athanorlaw04_awake.f k).bind fun t454 => (some t454))) else (none))) true) :
    ∀ (t : List Int) (i : Nat), m.drop i = t → Ev (fun k => athanorlaw04_TensorMakes.l1 k x1 x8 m (m.length : Int) (i : Int) s c o0 o1) true := by
  intro t
  induction t with
  | nil =>
    intro i h
    have := drop_nil h
    refine Ev.step (fun k => ?_) tail
    simp only [athanorlaw04_TensorMakes.l1]; rw [if_neg (by omega)]
  | cons x t ih =>
    intro i h
    obtain ⟨g1, g2, g3⟩ := drop_cons h
    refine Ev.step (fun k => ?_) (ih (i + 1) g3)
    simp only [athanorlaw04_TensorMakes.l1]
    rw [if_pos (by omega), if_pos (by omega), if_pos (by omega), rd_nat m i g1, hx _ (List.getElem_mem g1), if_pos rfl, w64s g1 hm]
theorem l0Loop (x1 x6 x8 : Int) (s c m0 m1 o0 o1 cs : List Int) (hc : c.length ≤ 140737488351232)
    (tail : Ev (fun k => (athanorref03_Right.f k s).bind fun t446 => (if t446 = true then (if x6 = 0 then ((athanorref03_Size.f k s).bind fun t448 => (if (m1.length : Int) = t448 then ((shape_Shape_Equal.f k m0 s).bind fun t449 => (athanorlaw04_TensorMakes.j2 k x1 x8 (!t449) s c m0 m1 o0 o1)) else (athanorlaw04_TensorMakes.j2 k x1 x8 true s c m0 m1 o0 o1))) else (athanorlaw04_TensorMakes.j2 k x1 x8 true s c m0 m1 o0 o1)) else (if x6 = 20 then (if x8 = 20 then (if (m1.length : Int) = 0 then ((athanorlaw04_awake.f k).bind fun t447 => (some t447)) else (none)) else (none)) else (none)))) true) :
    ∀ (d i : Nat) (cur : List Int), i + d = c.length → cur.length = c.length → (∀ j, i ≤ j → j < c.length → rd cur (j : Int) = rd c (j : Int)) →
    Ev (fun k => athanorlaw04_TensorMakes.l0 k x1 x6 x8 (c.length : Int) (i : Int) s c m0 m1 o0 o1 cs cur) true := by
  intro d
  induction d with
  | zero =>
    intro i cur h hl hr
    refine Ev.step (fun k => ?_) tail
    simp only [athanorlaw04_TensorMakes.l0]; rw [if_neg (by omega)]
  | succ d ih =>
    intro i cur h hl hr
    have hi : i < c.length := by omega
    refine Ev.step (fun k => ?_) (ih (i + 1) (cur.set i (wrap64 (rd cur (i : Int) + 1))) (by omega) (by simp [hl]) (fun j h1 h2 => ?_))
    · simp only [athanorlaw04_TensorMakes.l0, Option.bind_some, Int.toNat_natCast]
      rw [if_pos (by omega), if_pos (by omega), if_pos (by omega), if_neg (by omega), if_pos (by omega), w64s hi hc]
      rw [show rd (cur.set i (wrap64 (rd cur (i : Int) + 1))) (i : Int) = wrap64 (rd cur (i : Int) + 1) by rw [rd_nat _ _ (by simp; omega)]; exact List.getElem_set_self _, hr i (Nat.le_refl _) hi, if_pos rfl]
    · rw [rd_nat _ _ (by simp; omega), List.getElem_set_ne (by omega), ← rd_nat cur j (by omega)]
      exact hr j (by omega) h2
theorem TensorMakes : athanorlaw04_TensorMakes.Pure := by
  intro z x hz hx
  obtain ⟨s, c⟩ := z
  simp only
  refine Ev.rounds (g := fun k => athanorlaw04_TensorMakes.f k s c x) ?_
  unfold athanorlaw04_TensorMakes.f
  simp only [small_f, Option.bind_some, decide_eq_true_eq]
  by_cases h : s.length ≤ 50 ∧ c.length ≤ 600
  · simp only [h, and_self, if_true]
    obtain ⟨h1, h2⟩ := h
    refine Ev.bind (makeT_ev s x (by omega)) (Ev.bind (ofT_ev s c (by omega) (by omega)) ?_)
    simp only [copyT_f s c (by omega) (by omega), Option.bind_some]
    refine Ev.bind (rightT_ev s c (by omega)) (Ev.bind (rightL_ev s c) ?_)
    simp only [bne_self_eq_false, Bool.false_eq_true, if_false]
    refine Ev.bind (equalT_ev s c s c (by omega) (by omega)) ?_
    simp only [decide_true, and_self, Bool.not_true]
    refine Ev.step (fun k => by simp only [athanorlaw04_TensorMakes.j0, Bool.false_eq_true, if_false]; rfl) (l0Loop x (makeT s x).2.2 (ofT s c).2.2 s c (makeT s x).1 (makeT s x).2.1 (ofT s c).1 (ofT s c).2.1 s (by omega) ?_ c.length 0 c (by omega) rfl (fun _ _ _ => rfl))
    refine Ev.bind (refRight_ev s) ?_
    cases e : rightS s with
    | false =>
      have e1 : makeT s x = ([], [], 20) := by unfold makeT; rw [e]; rfl
      have e2 : ofT s c = ([], [], 20) := by unfold ofT rightT; rw [e]; rfl
      simp only [Bool.false_eq_true, if_false, e1, e2, if_true, List.length_nil]
      exact aw
    | true =>
      obtain ⟨k1, k2, k3, k4, k5⟩ := rightS_true e
      have e1 : makeT s x = (s, List.replicate (prod s).toNat x, 0) := by unfold makeT; rw [e]; rfl
      simp only [if_true, e1]
      refine Ev.bind (refSize_ev s k2 k3) ?_
      simp only [show ((List.replicate (prod s).toNat x).length : Int) = prod s by rw [List.length_replicate]; omega, if_true]
      refine Ev.bind (equal_ev s s (by omega)) ?_
      simp only [decide_true, Bool.not_true]
      refine Ev.step (fun k => by simp only [athanorlaw04_TensorMakes.j2, Bool.false_eq_true, if_false]; rfl) (l1Loop x (ofT s c).2.2 (List.replicate (prod s).toNat x) s c (ofT s c).1 (ofT s c).2.1 (by rw [List.length_replicate]; omega) (fun y hy => List.eq_of_mem_replicate hy) ?_ _ 0 rfl)
      refine Ev.bind (rightL_ev s c) ?_
      cases f : rightT s c with
      | true =>
        have e2 : ofT s c = (s, c, 0) := by unfold ofT; rw [f]; rfl
        simp only [e2, beq_self_eq_true, if_true]
        refine Ev.bind (equalT_ev s c s c (by omega) (by omega)) ?_
        simp only [decide_true, and_self, if_true]
        exact aw
      | false =>
        have e2 : ofT s c = ([], [], 20) := by unfold ofT; rw [f]; rfl
        simp only [e2]
        exact aw
  · simp only [h, if_false]; exact aw
end Go.Proofs.Ytmekcfmhaflghaa.LawsTensorM
