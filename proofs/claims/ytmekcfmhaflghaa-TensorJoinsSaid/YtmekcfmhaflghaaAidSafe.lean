/- What the printed functions of package safe answer, in plain words. Conditions: each list takes at most 2^47 - 4096 places; the numbers are any. -/
import Derived.Test.YtmekcfmhaflghaaPJoix1
import Derived.Test.YtmekcfmhaflghaaAid
namespace Go.Proofs.Ytmekcfmhaflghaa.AidSafe
open Go.RowKit Go.Proofs.Ytmekcfmhaflghaa.PJoi Go.Proofs.Ytmekcfmhaflghaa.Aid Go.Proofs.YtmekcfmhaflghaaW.PrintWords Go.Proofs.YtmekcfmhaflghaaW.PrintLast Go.Proofs.YtmekcfmhaflghaaW.PrintMore
def M : Int := 1099511627776
def bad (x : Int) : Bool := !(decide (0 ≤ x) && decide (x ≤ 1099511627776))
theorem bad_false {x : Int} (h : bad x = false) : 0 ≤ x ∧ x ≤ 1099511627776 := by simpa [bad] using h
theorem right_f (x : Int) : safe_Right.f x = some (!bad x) := by
  unfold safe_Right.f bad
  by_cases h : 0 ≤ x
  · rw [if_pos h]; simp [h]
  · rw [if_neg h]; simp [h]
theorem wrong1_f (x : Int) : safe_wrong_1.f x = some (bad x) := by
  unfold safe_wrong_1.f; rw [right_f]; simp
def idxFrom (p : Int → Bool) : List Int → Nat → Int
  | [], _ => -1
  | x :: t, i => if p x = true then (i : Int) else idxFrom p t (i + 1)
theorem idxFrom_any (p : Int → Bool) : ∀ (t : List Int) (i : Nat), (decide (idxFrom p t i ≥ 0)) = t.any p
  | [], _ => by simp [idxFrom]
  | x :: t, i => by
    unfold idxFrom
    by_cases h : p x = true
    · rw [if_pos h]; simp [h]
    · rw [if_neg h, idxFrom_any p t (i + 1)]; simp [h]
theorem indexFunc_ev (l : List Int) (hn : l.length ≤ 140737488351232) : ∀ (t : List Int) (i : Nat), l.drop i = t →
    Ev (fun k => slices_IndexFunc_int_int_at_safe_wrong_1.l0 k l (l.length : Int) (i : Int)) (idxFrom bad t i) := by
  intro t
  induction t with
  | nil =>
    intro i h
    have := drop_nil h
    refine Ev.step (fun k => ?_) (Ev.now _)
    simp only [slices_IndexFunc_int_int_at_safe_wrong_1.l0]; rw [if_neg (by omega)]; rfl
  | cons x t ih =>
    intro i h
    obtain ⟨h1, h2, h3⟩ := drop_cons h
    unfold idxFrom
    by_cases hb : bad x = true
    · rw [if_pos hb]
      refine Ev.step (fun k => ?_) (Ev.now _)
      simp only [slices_IndexFunc_int_int_at_safe_wrong_1.l0]; rw [if_pos (by omega), if_pos (by omega), if_pos (by omega), h2, wrong1_f]; simp only [Option.bind_some]; rw [if_pos hb]
    · rw [if_neg hb]
      refine Ev.step (fun k => ?_) (ih (i + 1) h3)
      simp only [slices_IndexFunc_int_int_at_safe_wrong_1.l0]; rw [if_pos (by omega), if_pos (by omega), if_pos (by omega), h2, wrong1_f]; simp only [Option.bind_some]; rw [if_neg hb, w64s h1 hn]
theorem wrong_ev (l : List Int) (hn : l.length ≤ 140737488351232) : Ev (fun k => safe_wrong.f k l) (l.any bad) := by
  have h := indexFunc_ev l hn l 0 rfl
  have e := idxFrom_any bad l 0
  refine Ev.congr (f := fun k => (slices_IndexFunc_int_int_at_safe_wrong_1.l0 k l (l.length : Int) ((0 : Nat) : Int)).bind fun r => some (decide (r ≥ 0))) (fun k => ?_) (Ev.bind h (by rw [e]; exact Ev.now _))
  unfold safe_wrong.f slices_ContainsFunc_int_int_at_safe_wrong_1.f slices_IndexFunc_int_int_at_safe_wrong_1.f
  simp
theorem index_ev (l : List Int) (v : Int) (hn : l.length ≤ 140737488351232) : ∀ (t : List Int) (i : Nat), l.drop i = t →
    Ev (fun k => slices_Index_int_int.l0 k l v (l.length : Int) (i : Int)) (idxFrom (fun x => decide (v = x)) t i) := by
  intro t
  induction t with
  | nil =>
    intro i h
    have := drop_nil h
    refine Ev.step (fun k => ?_) (Ev.now _)
    simp only [slices_Index_int_int.l0]; rw [if_neg (by omega)]; rfl
  | cons x t ih =>
    intro i h
    obtain ⟨h1, h2, h3⟩ := drop_cons h
    unfold idxFrom
    by_cases hb : v = x
    · rw [if_pos (by simpa using hb)]
      refine Ev.step (fun k => ?_) (Ev.now _)
      simp only [slices_Index_int_int.l0]; rw [if_pos (by omega), if_pos (by omega), if_pos (by omega), h2, if_pos hb]
    · rw [if_neg (by simpa using hb)]
      refine Ev.step (fun k => ?_) (ih (i + 1) h3)
      simp only [slices_Index_int_int.l0]; rw [if_pos (by omega), if_pos (by omega), if_pos (by omega), h2, if_neg hb, w64s h1 hn]
theorem contains_ev (l : List Int) (v : Int) (hn : l.length ≤ 140737488351232) : Ev (fun k => slices_Contains_int_int.f k l v) (l.any fun x => decide (v = x)) := by
  have h := index_ev l v hn l 0 rfl
  have e := idxFrom_any (fun x => decide (v = x)) l 0
  unfold slices_Contains_int_int.f slices_Index_int_int.f
  refine Ev.bind h ?_
  rw [e]; exact Ev.now _
/-- Products from o on. -/
def mulFrom (o : Int) : List Int → Int × Int
  | [] => (o, 0)
  | x :: t => if o * x > 1099511627776 then (0, 17) else mulFrom (o * x) t
def mulS (l : List Int) : Int × Int := if l.any bad = true then (0, 11) else if (l.any fun x => decide (0 = x)) = true then (0, 0) else mulFrom 1 l
theorem div_gt {o x : Int} (ho : 1 ≤ o) : x > 1099511627776 / o ↔ o * x > 1099511627776 := by
  constructor
  · intro h
    have h := (Int.ediv_lt_iff_lt_mul (by omega)).1 h
    rw [Int.mul_comm]; exact h
  · intro h
    rw [Int.mul_comm] at h
    exact (Int.ediv_lt_iff_lt_mul (by omega)).2 h
theorem div_range {o : Int} (ho : 1 ≤ o) : 0 ≤ 1099511627776 / o ∧ 1099511627776 / o ≤ 1099511627776 := by
  constructor
  · exact Int.ediv_nonneg (by omega) (by omega)
  · exact Int.ediv_le_self _ (by omega)
theorem mul_pos' {o x : Int} (ho : 1 ≤ o) (hx : 1 ≤ x) : 1 ≤ o * x := by
  have := Int.mul_pos (show 0 < o by omega) (show 0 < x by omega); omega
theorem mul_ev0 (l : List Int) (hn : l.length ≤ 140737488351232) : ∀ (t : List Int) (i : Nat) (o : Int), l.drop i = t → 1 ≤ o → o ≤ 1099511627776 → t.any bad = false → (t.any fun x => decide (0 = x)) = false →
    Ev (fun k => safe_Mul.l0 k o l (l.length : Int) (i : Int)) (mulFrom o t) := by
  intro t
  induction t with
  | nil =>
    intro i o h h0 h1 hb hz
    have := drop_nil h
    refine Ev.step (fun k => ?_) (Ev.now _)
    simp only [safe_Mul.l0]; rw [if_neg (by omega)]; rfl
  | cons x t ih =>
    intro i o h h0 h1 hb hz
    obtain ⟨g1, g2, g3⟩ := drop_cons h
    rw [List.any_cons, Bool.or_eq_false_iff] at hb hz
    have hx := bad_false hb.1
    have hx0 : ¬ 0 = x := by simpa using hz.1
    have hd := div_gt (o := o) (x := x) h0
    have hr := div_range (o := o) h0
    unfold mulFrom
    by_cases hc : o * x > 1099511627776
    · rw [if_pos hc]
      refine Ev.step (fun k => ?_) (Ev.now _)
      simp only [safe_Mul.l0]; rw [if_pos (by omega), if_pos (by omega), if_pos (by omega), if_neg (by omega), g2, tdiv_pos (by omega), w64 (by omega) (by omega), if_pos (hd.2 hc)]
    · rw [if_neg hc]
      have hp := mul_pos' h0 (show 1 ≤ x by omega)
      refine Ev.step (fun k => ?_) (ih (i + 1) (o * x) g3 hp (by omega) hb.2 hz.2)
      simp only [safe_Mul.l0]; rw [if_pos (by omega), if_pos (by omega), if_pos (by omega), if_neg (by omega), g2, tdiv_pos (by omega), w64 (x := 1099511627776 / o) (by omega) (by omega), if_neg (fun h => hc (hd.1 h)), w64 (x := o * x) (by omega) (by omega), w64s g1 hn]
theorem mul_ev (l : List Int) (hn : l.length ≤ 140737488351232) : Ev (fun k => safe_Mul.f k l) (mulS l) := by
  unfold safe_Mul.f mulS
  refine Ev.bind (wrong_ev l hn) ?_
  by_cases h : l.any bad = true
  · rw [if_pos h]; simp only [h, if_true]; exact Ev.now _
  · rw [if_neg h]; simp only [h, if_false, Bool.false_eq_true]
    refine Ev.bind (contains_ev l 0 hn) ?_
    by_cases hz : (l.any fun x => decide (0 = x)) = true
    · rw [if_pos hz]; simp only [hz, if_true]; exact Ev.now _
    · rw [if_neg hz]; simp only [hz, if_false, Bool.false_eq_true]
      exact mul_ev0 l hn l 0 1 rfl (by omega) (by omega) (by simpa using h) ((Bool.not_eq_true _).mp hz)
end Go.Proofs.Ytmekcfmhaflghaa.AidSafe
