/- What the printed functions of package shape and of its reference answer, in plain words. Conditions: each list takes at most 2^47 - 4096 places. -/
import Derived.Test.YtmekcfmhaflghaaPJoix5
import Derived.Test.YtmekcfmhaflghaaPJoix3
import Derived.Test.YtmekcfmhaflghaaAidSafe
set_option linter.unusedSimpArgs false
set_option linter.unusedVariables false
namespace Go.Proofs.Ytmekcfmhaflghaa.AidShape
open Go.RowKit Go.Proofs.Ytmekcfmhaflghaa.PJoi Go.Proofs.Ytmekcfmhaflghaa.Aid Go.Proofs.Ytmekcfmhaflghaa.AidSafe Go.Proofs.YtmekcfmhaflghaaW.PrintWords Go.Proofs.YtmekcfmhaflghaaW.PrintLast Go.Proofs.YtmekcfmhaflghaaW.PrintMore
def prod : List Int → Int
  | [] => 1
  | x :: t => x * prod t
def inS (x : Int) : Bool := decide (1 ≤ x) && decide (x ≤ 1024)
theorem inS_true {x : Int} (h : inS x = true) : 1 ≤ x ∧ x ≤ 1024 := by simpa [inS] using h
theorem prod_ge {l : List Int} (h : ∀ x ∈ l, 1 ≤ x) : 1 ≤ prod l := by
  induction l with
  | nil => exact Int.le_refl _
  | cons x t ih => exact mul_pos' (h x List.mem_cons_self) (ih fun y hy => h y (List.mem_cons_of_mem _ hy))
theorem mulFrom_prod : ∀ (l : List Int) (o : Int), 1 ≤ o → o ≤ 1099511627776 → (∀ x ∈ l, 1 ≤ x) → mulFrom o l = if o * prod l > 1099511627776 then (0, 17) else (o * prod l, 0)
  | [], o, h0, h1, _ => by unfold mulFrom prod; rw [if_neg (by omega)]; simp
  | x :: t, o, h0, h1, hb => by
    have hx := hb x List.mem_cons_self
    have ht : ∀ y ∈ t, 1 ≤ y := fun y hy => hb y (List.mem_cons_of_mem _ hy)
    have hp := prod_ge ht
    have ho := mul_pos' h0 hx
    unfold mulFrom prod
    rw [← Int.mul_assoc]
    by_cases hc : o * x > 1099511627776
    · have := Int.mul_le_mul_of_nonneg_left hp (show 0 ≤ o * x by omega); rw [Int.mul_one] at this
      rw [if_pos hc, if_pos (by omega)]
    · rw [if_neg hc, mulFrom_prod t (o * x) ho (by omega) ht]
theorem prod_le : ∀ (l : List Int), (∀ x ∈ l, 1 ≤ x ∧ x ≤ 1024) → prod l ≤ 1024 ^ l.length
  | [], _ => by simp [prod]
  | x :: t, h => by
    have hx := h x List.mem_cons_self
    have ht := prod_le t fun y hy => h y (List.mem_cons_of_mem _ hy)
    have hp := prod_ge fun y hy => (h y (List.mem_cons_of_mem _ hy)).1
    unfold prod
    rw [List.length_cons, Int.pow_succ, Int.mul_comm]
    exact Int.mul_le_mul ht hx.2 (by omega) (by omega)
theorem pow4 {n : Nat} (h : n ≤ 4) : (1024 : Int) ^ n ≤ 1099511627776 := by
  match n, h with
  | 0, _ => decide
  | 1, _ => decide
  | 2, _ => decide
  | 3, _ => decide
  | 4, _ => decide
theorem prod4 {l : List Int} (h : ∀ x ∈ l, 1 ≤ x ∧ x ≤ 1024) (h4 : l.length ≤ 4) : 1 ≤ prod l ∧ prod l ≤ 1099511627776 := ⟨prod_ge fun x hx => (h x hx).1, Int.le_trans (prod_le l h) (pow4 h4)⟩
/-- May sides be a shape? -/
def rightS (l : List Int) : Bool := decide (1 ≤ l.length) && decide (l.length ≤ 4) && l.all inS && decide (prod l ≤ 65536)
theorem rightS_true {l : List Int} (h : rightS l = true) : 1 ≤ l.length ∧ l.length ≤ 4 ∧ (∀ x ∈ l, 1 ≤ x ∧ x ≤ 1024) ∧ 1 ≤ prod l ∧ prod l ≤ 65536 := by
  unfold rightS at h
  simp only [Bool.and_eq_true, decide_eq_true_eq, List.all_eq_true] at h
  obtain ⟨⟨⟨h1, h2⟩, h3⟩, h4⟩ := h
  have h5 : ∀ x ∈ l, 1 ≤ x ∧ x ≤ 1024 := fun x hx => inS_true (h3 x hx)
  exact ⟨h1, h2, h5, prod_ge fun x hx => (h5 x hx).1, h4⟩
theorem within_f (x : Int) : shape_within.f x = some (inS x) := by
  unfold shape_within.f inS
  by_cases h : 1 ≤ x
  · rw [if_pos h]; simp [h]
  · rw [if_neg h]; simp [h]
theorem right1_f (x : Int) : shape_Shape_Right_1.f x = some (!inS x) := by unfold shape_Shape_Right_1.f; rw [within_f]; rfl
theorem indexS_ev (l : List Int) (hn : l.length ≤ 140737488351232) : ∀ (t : List Int) (i : Nat), l.drop i = t →
    Ev (fun k => slices_IndexFunc_shape_Shape_int_at_shape_Shape_Right_1.l0 k l (l.length : Int) (i : Int)) (idxFrom (fun x => !inS x) t i) := by
  intro t
  induction t with
  | nil =>
    intro i h
    have := drop_nil h
    refine Ev.step (fun k => ?_) (Ev.now _)
    simp only [slices_IndexFunc_shape_Shape_int_at_shape_Shape_Right_1.l0]; rw [if_neg (by omega)]; rfl
  | cons x t ih =>
    intro i h
    obtain ⟨h1, h2, h3⟩ := drop_cons h
    unfold idxFrom
    by_cases hb : (!inS x) = true
    · rw [if_pos hb]
      refine Ev.step (fun k => ?_) (Ev.now _)
      simp only [slices_IndexFunc_shape_Shape_int_at_shape_Shape_Right_1.l0]; rw [if_pos (by omega), if_pos (by omega), if_pos (by omega), h2, right1_f]; simp only [Option.bind_some]; rw [if_pos hb]
    · rw [if_neg hb]
      refine Ev.step (fun k => ?_) (ih (i + 1) h3)
      simp only [slices_IndexFunc_shape_Shape_int_at_shape_Shape_Right_1.l0]; rw [if_pos (by omega), if_pos (by omega), if_pos (by omega), h2, right1_f]; simp only [Option.bind_some]; rw [if_neg hb, w64s h1 hn]
theorem containsS_ev (l : List Int) (hn : l.length ≤ 140737488351232) : Ev (fun k => slices_ContainsFunc_shape_Shape_int_at_shape_Shape_Right_1.f k l) (l.any fun x => !inS x) := by
  unfold slices_ContainsFunc_shape_Shape_int_at_shape_Shape_Right_1.f slices_IndexFunc_shape_Shape_int_at_shape_Shape_Right_1.f
  refine Ev.bind (indexS_ev l hn l 0 rfl) ?_
  rw [idxFrom_any]; exact Ev.now _
theorem mulS_of {l : List Int} (h : ∀ x ∈ l, 1 ≤ x ∧ x ≤ 1024) (h4 : l.length ≤ 4) : mulS l = (prod l, 0) := by
  have hp := prod4 h h4
  have hb : l.any bad = false := by
    rw [List.any_eq_false]; intro x hx; have := h x hx; simp [bad]; omega
  have hz : (l.any fun x => decide (0 = x)) = false := by
    rw [List.any_eq_false]; intro x hx; have := h x hx; simp; omega
  unfold mulS
  rw [hb, hz, if_neg (by simp), if_neg (by simp), mulFrom_prod l 1 (by omega) (by omega) (fun x hx => (h x hx).1), Int.one_mul, if_neg (by omega)]
theorem right_ev (l : List Int) (hn : l.length ≤ 140737488351232) : Ev (fun k => shape_Shape_Right.f k l) (rightS l) := by
  unfold shape_Shape_Right.f
  by_cases c1 : (l.length : Int) < 1
  · simp only [c1, if_true]
    rw [show rightS l = false by unfold rightS; rw [decide_eq_false (by omega)]; rfl]; exact Ev.now _
  · simp only [c1, if_false]
    by_cases c2 : (l.length : Int) > 4
    · simp only [c2, if_true]
      rw [show rightS l = false by unfold rightS; rw [decide_eq_false (show ¬ l.length ≤ 4 by omega)]; simp]; exact Ev.now _
    · simp only [c2, if_false]
      refine Ev.bind (containsS_ev l hn) ?_
      by_cases c3 : (l.any fun x => !inS x) = true
      · simp only [c3, if_true]
        rw [show rightS l = false by
          unfold rightS
          have : l.all inS = false := by
            rw [List.any_eq_true] at c3; obtain ⟨x, hx, hi⟩ := c3
            rw [List.all_eq_false]; exact ⟨x, hx, by simpa using hi⟩
          rw [this]; simp]
        exact Ev.now _
      · simp only [c3, if_false, Bool.false_eq_true]
        have c3' : l.all inS = true := by
          rw [Bool.not_eq_true, List.any_eq_false] at c3
          rw [List.all_eq_true]; intro x hx; simpa using c3 x hx
        have h5 : ∀ x ∈ l, 1 ≤ x ∧ x ≤ 1024 := fun x hx => inS_true (List.all_eq_true.1 c3' x hx)
        refine Ev.bind (mul_ev l hn) ?_
        rw [mulS_of h5 (by omega)]
        simp only [if_true]
        rw [show rightS l = decide (prod l ≤ 65536) by unfold rightS; rw [c3', decide_eq_true (show 1 ≤ l.length by omega), decide_eq_true (show l.length ≤ 4 by omega)]; simp]
        exact Ev.now _
def sizeS (l : List Int) : Int × Int := if rightS l = true then (prod l, 0) else (0, 20)
theorem size_ev (l : List Int) (hn : l.length ≤ 140737488351232) : Ev (fun k => shape_Shape_Size.f k l) (sizeS l) := by
  unfold shape_Shape_Size.f sizeS
  refine Ev.bind (right_ev l hn) ?_
  by_cases c : rightS l = true
  · simp only [c, if_true]
    obtain ⟨h1, h2, h3, h4, h5⟩ := rightS_true c
    refine Ev.bind (mul_ev l hn) ?_
    rw [mulS_of h3 h2]; exact Ev.now _
  · simp only [c, if_false, Bool.false_eq_true]; exact Ev.now _
theorem refRightLoop (l : List Int) (h4 : l.length ≤ 4) : ∀ (t : List Int) (i : Nat) (o : Int), l.drop i = t → 1 ≤ o → o ≤ 1024 ^ i →
    Ev (fun k => athanorref03_Right.l0 k l o (i : Int)) (t.all inS && decide (o * prod t ≤ 65536)) := by
  intro t
  induction t with
  | nil =>
    intro i o h h0 h1
    have := drop_nil h
    refine Ev.step (fun k => ?_) (Ev.now _)
    simp only [athanorref03_Right.l0]; rw [if_neg (by omega)]; simp [prod]
  | cons x t ih =>
    intro i o h h0 h1
    obtain ⟨g1, g2, g3⟩ := drop_cons h
    by_cases c1 : x < 1
    · rw [show ((x :: t).all inS && decide (o * prod (x :: t) ≤ 65536)) = false by
        have : inS x = false := by unfold inS; rw [decide_eq_false (by omega)]; rfl
        rw [List.all_cons, this]; simp]
      refine Ev.step (fun k => ?_) (Ev.now _)
      simp only [athanorref03_Right.l0]; rw [if_pos (by omega), if_pos (by omega), g2, if_pos c1]
    · by_cases c2 : x > 1024
      · rw [show ((x :: t).all inS && decide (o * prod (x :: t) ≤ 65536)) = false by
          have : inS x = false := by unfold inS; rw [decide_eq_false (show ¬ x ≤ 1024 by omega)]; simp
          rw [List.all_cons, this]; simp]
        refine Ev.step (fun k => ?_) (Ev.now _)
        simp only [athanorref03_Right.l0]; rw [if_pos (by omega), if_pos (by omega), g2, if_neg c1, if_pos c2]
      · have hx : inS x = true := by unfold inS; rw [decide_eq_true (show 1 ≤ x by omega), decide_eq_true (show x ≤ 1024 by omega)]; rfl
        have ho := mul_pos' h0 (show 1 ≤ x by omega)
        have hle : o * x ≤ 1024 ^ (i + 1) := by rw [Int.pow_succ]; exact Int.mul_le_mul h1 (by omega) (by omega) (by exact Int.pow_nonneg (by omega))
        have hp4 := pow4 (show i + 1 ≤ 4 by omega)
        rw [List.all_cons, hx, Bool.true_and, show o * prod (x :: t) = o * x * prod t by rw [Int.mul_assoc]; rfl]
        refine Ev.step (fun k => ?_) (ih (i + 1) (o * x) g3 ho hle)
        simp only [athanorref03_Right.l0]; rw [if_pos (by omega), if_pos (by omega), g2, if_neg c1, if_neg c2, w64 (x := o * x) (by omega) (by omega), w64s g1 (by omega)]
theorem refRight_ev (l : List Int) : Ev (fun k => athanorref03_Right.f k l) (rightS l) := by
  unfold athanorref03_Right.f
  by_cases c1 : (l.length : Int) < 1
  · simp only [c1, if_true]
    rw [show rightS l = false by unfold rightS; rw [decide_eq_false (by omega)]; rfl]
    exact Ev.step (fun k => by simp only [athanorref03_Right.j0, if_true]) (Ev.now _)
  · simp only [c1, if_false]
    by_cases c2 : (l.length : Int) > 4
    · rw [show rightS l = false by unfold rightS; rw [decide_eq_false (show ¬ l.length ≤ 4 by omega)]; simp]
      refine Ev.step (fun k => ?_) (Ev.now _)
      simp only [athanorref03_Right.j0]; rw [if_pos (by simpa using c2)]
    · have := refRightLoop l (by omega) l 0 1 rfl (by omega) (by simp)
      rw [Int.one_mul] at this
      rw [show rightS l = (l.all inS && decide (prod l ≤ 65536)) by unfold rightS; rw [decide_eq_true (show 1 ≤ l.length by omega), decide_eq_true (show l.length ≤ 4 by omega)]; simp]
      refine Ev.step (fun k => ?_) this
      simp only [athanorref03_Right.j0]; rw [if_neg (by simpa using c2)]; rfl
theorem refSizeLoop (l : List Int) (h4 : l.length ≤ 4) (hl : ∀ x ∈ l, 1 ≤ x ∧ x ≤ 1024) : ∀ (t : List Int) (i : Nat) (o : Int), l.drop i = t → 1 ≤ o → o ≤ 1024 ^ i →
    Ev (fun k => athanorref03_Size.l0 k l o (i : Int)) (o * prod t) := by
  intro t
  induction t with
  | nil =>
    intro i o h h0 h1
    have := drop_nil h
    refine Ev.step (fun k => ?_) (Ev.now _)
    simp only [athanorref03_Size.l0]; rw [if_neg (by omega)]; simp [prod]
  | cons x t ih =>
    intro i o h h0 h1
    obtain ⟨g1, g2, g3⟩ := drop_cons h
    have hx := hl x (List.mem_of_mem_drop (by rw [h]; exact List.mem_cons_self))
    have ho := mul_pos' h0 hx.1
    have hle : o * x ≤ 1024 ^ (i + 1) := by rw [Int.pow_succ]; exact Int.mul_le_mul h1 (by omega) (by omega) (by exact Int.pow_nonneg (by omega))
    have hp4 := pow4 (show i + 1 ≤ 4 by omega)
    rw [show o * prod (x :: t) = o * x * prod t by rw [Int.mul_assoc]; rfl]
    refine Ev.step (fun k => ?_) (ih (i + 1) (o * x) g3 ho hle)
    simp only [athanorref03_Size.l0]; rw [if_pos (by omega), if_pos (by omega), g2, w64 (x := o * x) (by omega) (by omega), w64s g1 (by omega)]
theorem refSize_ev (l : List Int) (h4 : l.length ≤ 4) (hl : ∀ x ∈ l, 1 ≤ x ∧ x ≤ 1024) : Ev (fun k => athanorref03_Size.f k l) (prod l) := by
  have := refSizeLoop l h4 hl l 0 1 rfl (by omega) (by simp)
  rw [Int.one_mul] at this
  exact this
theorem equalLoop (a b : List Int) (hl : a.length = b.length) (hn : a.length ≤ 140737488351232) : ∀ (t u : List Int) (i : Nat), a.drop i = t → b.drop i = u →
    Ev (fun k => slices_Equal_shape_Shape_int.l0 k a b (a.length : Int) (i : Int)) (decide (t = u)) := by
  intro t
  induction t with
  | nil =>
    intro u i h h'
    have h1 := drop_nil h
    have h2 : u = [] := by rw [← h']; exact List.drop_eq_nil_of_le (by omega)
    subst h2
    refine Ev.step (fun k => ?_) (Ev.now _)
    simp only [slices_Equal_shape_Shape_int.l0]; rw [if_neg (by omega)]; rfl
  | cons x t ih =>
    intro u i h h'
    obtain ⟨g1, g2, g3⟩ := drop_cons h
    cases u with
    | nil => have := drop_nil h'; omega
    | cons y u =>
      obtain ⟨k1, k2, k3⟩ := drop_cons h'
      by_cases c : x = y
      · rw [show decide (x :: t = y :: u) = decide (t = u) by simp [c]]
        refine Ev.step (fun k => ?_) (ih u (i + 1) g3 k3)
        simp only [slices_Equal_shape_Shape_int.l0]; rw [if_pos (by omega), if_pos (by omega), if_pos (by omega), if_pos (by omega), g2, k2, if_pos c, w64s g1 hn]
      · rw [show decide (x :: t = y :: u) = false by simp [c]]
        refine Ev.step (fun k => ?_) (Ev.now _)
        simp only [slices_Equal_shape_Shape_int.l0]; rw [if_pos (by omega), if_pos (by omega), if_pos (by omega), if_pos (by omega), g2, k2, if_neg c]
theorem equal_ev (a b : List Int) (hn : a.length ≤ 140737488351232) : Ev (fun k => shape_Shape_Equal.f k a b) (decide (a = b)) := by
  unfold shape_Shape_Equal.f slices_Equal_shape_Shape_int.f
  by_cases c : (a.length : Int) = (b.length : Int)
  · simp only [c, if_true]
    rw [← c]
    exact Ev.bind (equalLoop a b (by omega) hn a b 0 rfl rfl) (Ev.now _)
  · simp only [c, if_false]
    rw [show decide (a = b) = false by rw [decide_eq_false_iff_not]; intro h; rw [h] at c; exact c rfl]
    exact Ev.now _
theorem clone_f (l : List Int) (h : l.length < 17592186044416) : slices_Clone_shape_Shape_int.f l = some l := by
  unfold slices_Clone_shape_Shape_int.f; simp; omega
theorem copy_f (l : List Int) (h : l.length < 17592186044416) : shape_Shape_Copy.f l = some l := by unfold shape_Shape_Copy.f; rw [clone_f l h]; rfl
end Go.Proofs.Ytmekcfmhaflghaa.AidShape
