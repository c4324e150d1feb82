/- Grids: what the functions of package tensor compute, on the printed functions. Conditions: those of each lemma. -/
import Derived.Test.YtmekcfmhaflghaaPJoix5
import Derived.Test.YtmekcfmhaflghaaPJoix3
import Derived.Test.YtmekcfmhaflghaaAidShape
set_option linter.unusedSimpArgs false
set_option linter.unusedVariables false
namespace Go.Proofs.Ytmekcfmhaflghaa.AidTensor
open Go.RowKit Go.Proofs.Ytmekcfmhaflghaa.PJoi Go.Proofs.Ytmekcfmhaflghaa.Aid Go.Proofs.Ytmekcfmhaflghaa.AidShape Go.Proofs.YtmekcfmhaflghaaW.PrintWords Go.Proofs.YtmekcfmhaflghaaW.PrintLast Go.Proofs.YtmekcfmhaflghaaW.PrintMore
theorem equalFLoop (a b : List Int) (hl : a.length = b.length) (hn : a.length ≤ 140737488351232) : ∀ (t u : List Int) (i : Nat), a.drop i = t → b.drop i = u →
    Ev (fun k => slices_Equal_fix_F_fix_F.l0 k a b (a.length : Int) (i : Int)) (decide (t = u)) := by
  intro t
  induction t with
  | nil =>
    intro u i h h'
    have h1 := drop_nil h
    have h2 : u = [] := by rw [← h']; exact List.drop_eq_nil_of_le (by omega)
    subst h2
    refine Ev.step (fun k => ?_) (Ev.now _)
    simp only [slices_Equal_fix_F_fix_F.l0]; rw [if_neg (by omega)]; rfl
  | cons x t ih =>
    intro u i h h'
    obtain ⟨g1, g2, g3⟩ := drop_cons h
    cases u with
    | nil => have := drop_nil h'; omega
    | cons y u =>
      obtain ⟨k1, k2, k3⟩ := drop_cons h'
      by_cases c : x = y
      · rw [show decide (x :: t = y :: u) = decide (t = u) by simp [c]]
        refine Ev.step (fun k => ?_) (ih u (i + 1) g3 k3)
        simp only [slices_Equal_fix_F_fix_F.l0]; rw [if_pos (by omega), if_pos (by omega), if_pos (by omega), if_pos (by omega), g2, k2, if_pos c, w64s g1 hn]
      · rw [show decide (x :: t = y :: u) = false by simp [c]]
        refine Ev.step (fun k => ?_) (Ev.now _)
        simp only [slices_Equal_fix_F_fix_F.l0]; rw [if_pos (by omega), if_pos (by omega), if_pos (by omega), if_pos (by omega), g2, k2, if_neg c]
theorem equalF_ev (a b : List Int) (hn : a.length ≤ 140737488351232) : Ev (fun k => slices_Equal_fix_F_fix_F.f k a b) (decide (a = b)) := by
  unfold slices_Equal_fix_F_fix_F.f
  by_cases c : (a.length : Int) = (b.length : Int)
  · simp only [c, if_true]
    rw [← c]
    exact equalFLoop a b (by omega) hn a b 0 rfl rfl
  · simp only [c, if_false]
    rw [show decide (a = b) = false by rw [decide_eq_false_iff_not]; intro h; rw [h] at c; exact c rfl]
    exact Ev.now _
theorem cloneF_f (l : List Int) (h : l.length < 17592186044416) : slices_Clone_fix_F_fix_F.f l = some l := by
  unfold slices_Clone_fix_F_fix_F.f; simp; omega
/-- A right grid: a right shape, and as many cells. -/
def rightT (s c : List Int) : Bool := rightS s && decide (prod s = (c.length : Int))
theorem rightT_ev (s c : List Int) (hn : s.length ≤ 140737488351232) : Ev (fun k => tensor_Grid_fix_F_Right.f k s c) (rightT s c) := by
  unfold tensor_Grid_fix_F_Right.f rightT
  refine Ev.bind (size_ev s hn) ?_
  unfold sizeS
  cases e : rightS s with
  | true => simp only [if_true, Bool.true_and]; rw [show (prod s == (c.length : Int)) = decide (prod s = (c.length : Int)) from rfl]; exact Ev.now _
  | false => simp only [Bool.false_eq_true, if_false, Bool.false_and]; rw [if_neg (by omega)]; exact Ev.now _
theorem rightT_true {s c : List Int} (h : rightT s c = true) : rightS s = true ∧ prod s = (c.length : Int) := by
  unfold rightT at h; rwa [Bool.and_eq_true, decide_eq_true_eq] at h
theorem copyT_f (s c : List Int) (hs : s.length < 17592186044416) (hc : c.length < 17592186044416) : tensor_Grid_fix_F_Copy.f s c = some (s, c) := by
  unfold tensor_Grid_fix_F_Copy.f
  rw [copy_f s hs, Option.bind_some, cloneF_f c hc]; rfl
def ofT (s c : List Int) : List Int × List Int × Int := if rightT s c = true then (s, c, 0) else ([], [], 20)
theorem ofT_ev (s c : List Int) (hs : s.length < 17592186044416) (hc : c.length < 17592186044416) : Ev (fun k => tensor_Of_fix_F.f k s c) (ofT s c) := by
  unfold tensor_Of_fix_F.f ofT
  refine Ev.bind (rightT_ev s c (by omega)) ?_
  cases e : rightT s c with
  | true => simp only [if_true, copyT_f s c hs hc, Option.bind_some]; exact Ev.now _
  | false => simp only [Bool.false_eq_true, if_false]; exact Ev.now _
theorem equalT_ev (s c s' c' : List Int) (hs : s.length ≤ 140737488351232) (hc : c.length ≤ 140737488351232) : Ev (fun k => tensor_Equal_fix_F.f k s c s' c') (decide (s = s' ∧ c = c')) := by
  unfold tensor_Equal_fix_F.f
  refine Ev.bind (equal_ev s s' hs) ?_
  by_cases e : s = s'
  · simp only [e, decide_true, if_true, true_and]
    exact Ev.bind (equalF_ev c c' hc) (Ev.now _)
  · simp only [e, decide_false, Bool.false_eq_true, if_false, false_and]; exact Ev.now _
theorem repeat_f (x n : Int) (h0 : 0 ≤ n) (h1 : n ≤ 1099511627776) : slices_Repeat_fix_F_fix_F.f [x] n = some (List.replicate n.toNat x) := by
  unfold slices_Repeat_fix_F_fix_F.f
  rw [if_pos (show [x].length = 1 from rfl), if_pos h0, if_pos h1]; rfl
def makeT (s : List Int) (x : Int) : List Int × List Int × Int := if rightS s = true then (s, List.replicate (prod s).toNat x, 0) else ([], [], 20)
theorem makeT_ev (s : List Int) (x : Int) (hs : s.length < 17592186044416) : Ev (fun k => tensor_Make_fix_F.f k s x) (makeT s x) := by
  unfold tensor_Make_fix_F.f makeT
  refine Ev.bind (size_ev s (by omega)) ?_
  unfold sizeS
  cases e : rightS s with
  | true =>
    obtain ⟨h1, h2, h3, h4, h5⟩ := rightS_true e
    simp only [if_true, copy_f s hs, Option.bind_some, repeat_f x (prod s) (by omega) (by omega)]; exact Ev.now _
  | false => simp only [Bool.false_eq_true, if_false]; rw [if_neg (by omega)]; exact Ev.now _
theorem rightL_ev (s c : List Int) : Ev (fun k => athanorlaw04_right.f k s c) (rightT s c) := by
  unfold athanorlaw04_right.f rightT
  refine Ev.bind (refRight_ev s) ?_
  cases e : rightS s with
  | false => simp only [Bool.false_eq_true, if_false, Bool.false_and]; exact Ev.now _
  | true =>
    obtain ⟨h1, h2, h3, h4, h5⟩ := rightS_true e
    simp only [if_true, Bool.true_and]
    refine Ev.bind (refSize_ev s h2 h3) ?_
    rw [show ((c.length : Int) == prod s) = decide (prod s = (c.length : Int)) by rw [show ((c.length : Int) == prod s) = decide ((c.length : Int) = prod s) from rfl, decide_eq_decide]; exact eq_comm]
    exact Ev.now _
/-- The number of a place, from the numbers of the sides before on. -/
def placeFrom (n : Int) : List Int → List Int → Int × Int
  | x :: s, y :: a => if y < 0 ∨ x ≤ y then (0, 11) else placeFrom (n * x + y) s a
  | _, _ => (n, 0)
theorem placeFrom_le : ∀ (s a : List Int) (n q : Int), (∀ x ∈ s, 1 ≤ x) → s.length = a.length → 0 ≤ n → n < q → (placeFrom n s a).2 = 0 → 0 ≤ (placeFrom n s a).1 ∧ (placeFrom n s a).1 < q * prod s := by
  intro s
  induction s with
  | nil => intro a n q _ hl h0 h1 _; cases a with
    | nil => simp only [placeFrom, prod]; omega
    | cons => simp at hl
  | cons x s ih =>
    intro a n q hx hl h0 h1 h2
    cases a with
    | nil => simp at hl
    | cons y a =>
      simp only [placeFrom] at h2 ⊢
      by_cases c : y < 0 ∨ x ≤ y
      · rw [if_pos c] at h2; cases h2
      · rw [if_neg c] at h2 ⊢
        have hx1 := hx x (List.mem_cons_self ..)
        have hm : 0 ≤ n * x := Int.mul_nonneg h0 (by omega)
        have hq : (n + 1) * x ≤ q * x := Int.mul_le_mul_of_nonneg_right (by omega) (by omega)
        rw [Int.add_mul, Int.one_mul] at hq
        have := ih a (n * x + y) (q * x) (fun z hz => hx z (List.mem_cons_of_mem _ hz)) (by simpa using hl) (by omega) (by omega) h2
        rw [Int.mul_assoc] at this
        exact this
theorem placeLoop (s a : List Int) (hl : s.length = a.length) (h4 : s.length ≤ 4) (hs : ∀ x ∈ s, 1 ≤ x ∧ x ≤ 1024) : ∀ (t u : List Int) (i : Nat) (n q : Int), s.drop i = t → a.drop i = u → 0 ≤ n → n < q → q * prod t ≤ 1099511627776 → 1 ≤ q →
    Ev (fun k => shape_Shape_Place.l0 k s n a (a.length : Int) (i : Int)) (placeFrom n t u) := by
  intro t
  induction t with
  | nil =>
    intro u i n q h h' _ _ _ _
    have h1 := drop_nil h
    have h2 : u = [] := by rw [← h']; exact List.drop_eq_nil_of_le (by omega)
    subst h2
    refine Ev.step (fun k => ?_) (Ev.now _)
    simp only [shape_Shape_Place.l0]; rw [if_neg (by omega)]; rfl
  | cons x t ih =>
    intro u i n q h h' h0 hq hp hq1
    obtain ⟨g1, g2, g3⟩ := drop_cons h
    cases u with
    | nil => have := drop_nil h'; omega
    | cons y u =>
      obtain ⟨k1, k2, k3⟩ := drop_cons h'
      have hx := hs x (by rw [← g2]; exact List.mem_of_getElem (h := g1) (by rw [rd_nat s i g1]))
      have hpt : 1 ≤ prod t := prod_ge (fun z hz => (hs z (List.mem_of_mem_drop (by rw [g3]; exact hz))).1)
      simp only [placeFrom]
      by_cases c : y < 0 ∨ x ≤ y
      · rw [if_pos c]
        refine Ev.step (fun k => ?_) (Ev.now _)
        simp only [shape_Shape_Place.l0]
        rw [if_pos (by omega), if_pos (by omega), if_pos (by omega), k2]
        by_cases d : y < 0
        · rw [if_pos d]
        · rw [if_neg d, if_pos (by omega), g2, if_pos (by omega)]
      · rw [if_neg c]
        have hm : 0 ≤ n * x := Int.mul_nonneg h0 (by omega)
        have hqx : (n + 1) * x ≤ q * x := Int.mul_le_mul_of_nonneg_right (by omega) (by omega)
        rw [Int.add_mul, Int.one_mul] at hqx
        have hqp : q * prod (x :: t) = q * x * prod t := by simp only [prod]; rw [Int.mul_assoc]
        have hqx0 : 1 ≤ q * x := Int.le_trans hq1 (by have := Int.mul_le_mul_of_nonneg_left hx.1 (by omega : 0 ≤ q); rwa [Int.mul_one] at this)
        have hqle : q * x ≤ q * x * prod t := by have := Int.mul_le_mul_of_nonneg_left hpt (by omega : 0 ≤ q * x); rwa [Int.mul_one] at this
        rw [hqp] at hp
        refine Ev.step (fun k => ?_) (ih u (i + 1) (n * x + y) (q * x) g3 k3 (by omega) (by omega) hp hqx0)
        simp only [shape_Shape_Place.l0]
        rw [if_pos (by omega), if_pos (by omega), if_pos (by omega), k2, if_neg (by omega), if_pos (by omega), g2, if_neg (by omega), w64 (x := n * x) (by omega) (by omega), w64 (x := n * x + y) (by omega) (by omega), w64s k1 (by omega)]
/-- The number of a place in a shape. -/
def placeS (s a : List Int) : Int × Int := if rightS s = true then (if a.length = s.length then placeFrom 0 s a else (0, 11)) else (0, 20)
theorem place_ev (s a : List Int) (hn : s.length ≤ 140737488351232) : Ev (fun k => shape_Shape_Place.f k s a) (placeS s a) := by
  unfold shape_Shape_Place.f placeS
  refine Ev.bind (right_ev s hn) ?_
  cases e : rightS s with
  | false => simp only [Bool.false_eq_true, if_false]; exact Ev.now _
  | true =>
    obtain ⟨h1, h2, h3, h4, h5⟩ := rightS_true e
    simp only [if_true]
    by_cases f : a.length = s.length
    · rw [if_pos f]
      have := placeLoop s a f.symm h2 h3 s a 0 0 1 rfl rfl (by omega) (by omega) (by omega) (by omega)
      simp only [show ((a.length : Int) = (s.length : Int)) by omega, if_true]
      rw [← show ((a.length : Int) = (s.length : Int)) by omega]
      exact this
    · rw [if_neg f]
      simp only [show ¬ ((a.length : Int) = (s.length : Int)) by omega, if_false]
      exact Ev.now _
theorem placeS_ok {s a : List Int} (h : (placeS s a).2 = 0) : rightS s = true ∧ 0 ≤ (placeS s a).1 ∧ (placeS s a).1 < prod s := by
  unfold placeS at h ⊢
  cases e : rightS s with
  | false => rw [e] at h; simp at h
  | true =>
    obtain ⟨h1, h2, h3, h4, h5⟩ := rightS_true e
    rw [e] at h
    simp only [if_true] at h ⊢
    by_cases f : a.length = s.length
    · rw [if_pos f] at h ⊢
      have := placeFrom_le s a 0 1 (fun x hx => (h3 x hx).1) f.symm (by omega) (by omega) h
      rw [Int.one_mul] at this
      exact ⟨trivial, this⟩
    · rw [if_neg f] at h; cases h
def placeT (s c a : List Int) : Int × Int := if rightT s c = true then placeS s a else (0, 20)
theorem placeT_ev (s c a : List Int) (hn : s.length ≤ 140737488351232) : Ev (fun k => tensor_Grid_fix_F_place.f k s c a) (placeT s c a) := by
  unfold tensor_Grid_fix_F_place.f placeT
  refine Ev.bind (rightT_ev s c hn) ?_
  cases e : rightT s c with
  | false => simp only [Bool.false_eq_true, if_false]; exact Ev.now _
  | true => simp only [if_true]; exact Ev.bind (place_ev s a hn) (Ev.now _)
theorem placeT_ok {s c a : List Int} (h : (placeT s c a).2 = 0) : 0 ≤ (placeT s c a).1 ∧ (placeT s c a).1 < (c.length : Int) := by
  unfold placeT at h ⊢
  cases e : rightT s c with
  | false => rw [e] at h; simp at h
  | true =>
    rw [e] at h; simp only [if_true] at h ⊢
    have := placeS_ok h
    have := (rightT_true e).2
    omega
def getT (s c a : List Int) : Int × Int := if (placeT s c a).2 = 0 then (rd c (placeT s c a).1, 0) else (0, (placeT s c a).2)
theorem getT_ev (s c a : List Int) (hn : s.length ≤ 140737488351232) : Ev (fun k => tensor_Grid_fix_F_Get.f k s c a) (getT s c a) := by
  unfold tensor_Grid_fix_F_Get.f getT
  refine Ev.bind (placeT_ev s c a hn) ?_
  by_cases e : (placeT s c a).2 = 0
  · have := placeT_ok e
    simp only [e, if_true]; rw [if_pos this.1, if_pos this.2]; exact Ev.now _
  · simp only [e, if_false]; exact Ev.now _
end Go.Proofs.Ytmekcfmhaflghaa.AidTensor
