/- What the reference's comparison of two lists answers. Conditions: each list takes at most 2^47 - 4096 places. -/
import Derived.Test.YtgmgjddfceilhaaPDenx9
import Derived.Test.YtgmgjddfceilhaaAid
set_option linter.unusedSimpArgs false
set_option linter.unusedVariables false
namespace Go.Proofs.Ytgmgjddfceilhaa.AidShape
open Go.RowKit Go.Proofs.Ytgmgjddfceilhaa.PDen Go.Proofs.Ytgmgjddfceilhaa.Aid Go.Proofs.YtgmgjddfceilhaaW.PrintWords Go.Proofs.YtgmgjddfceilhaaW.PrintLast Go.Proofs.YtgmgjddfceilhaaW.PrintMore
theorem sameLoop (a b : List Int) (hl : a.length = b.length) (hn : a.length ≤ 140737488351232) : ∀ (t u : List Int) (i : Nat), a.drop i = t → b.drop i = u →
    Ev (fun k => athanorref03_Same.l0 k a b (i : Int)) (decide (t = u)) := by
  intro t
  induction t with
  | nil =>
    intro u i h h'
    have h1 := drop_nil h
    have h2 : u = [] := by rw [← h']; exact List.drop_eq_nil_of_le (by omega)
    subst h2
    refine Ev.step (fun k => ?_) (Ev.now _)
    simp only [athanorref03_Same.l0]; rw [if_neg (by omega)]; rfl
  | cons x t ih =>
    intro u i h h'
    obtain ⟨g1, g2, g3⟩ := drop_cons h
    cases u with
    | nil => have := drop_nil h'; omega
    | cons y u =>
      obtain ⟨k1, k2, k3⟩ := drop_cons h'
      by_cases c : x = y
      · rw [show decide (x :: t = y :: u) = decide (t = u) by simp [c]]
        refine Ev.step (fun k => ?_) (ih u (i + 1) g3 k3)
        simp only [athanorref03_Same.l0]; rw [if_pos (by omega), if_pos (by omega), if_pos (by omega), g2, k2, if_pos c, w64s g1 hn]
      · rw [show decide (x :: t = y :: u) = false by simp [c]]
        refine Ev.step (fun k => ?_) (Ev.now _)
        simp only [athanorref03_Same.l0]; rw [if_pos (by omega), if_pos (by omega), if_pos (by omega), g2, k2, if_neg c]
theorem same_ev (a b : List Int) (hn : a.length ≤ 140737488351232) : Ev (fun k => athanorref03_Same.f k a b) (decide (a = b)) := by
  unfold athanorref03_Same.f
  by_cases c : (a.length : Int) = (b.length : Int)
  · simp only [c, if_true]
    exact sameLoop a b (by omega) hn a b 0 rfl rfl
  · simp only [c, if_false]
    rw [show decide (a = b) = false by rw [decide_eq_false_iff_not]; intro h; rw [h] at c; exact c rfl]
    exact Ev.now _
end Go.Proofs.Ytgmgjddfceilhaa.AidShape
