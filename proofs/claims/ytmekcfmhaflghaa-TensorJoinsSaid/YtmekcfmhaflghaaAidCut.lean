/- Parts of a side, and joined sides: what tensor.Cut and tensor.Join compute, place by place. Conditions: those of each lemma. -/
import Derived.Test.YtmekcfmhaflghaaPJoix5
import Derived.Test.YtmekcfmhaflghaaAidList
import Derived.Test.YtmekcfmhaflghaaAidTensor
import Derived.Test.YtmekcfmhaflghaaAidDigs
set_option linter.unusedSimpArgs false
set_option linter.unusedVariables false
namespace Go.Proofs.Ytmekcfmhaflghaa.AidCut
open Go.RowKit Go.Proofs.Ytmekcfmhaflghaa.PJoi Go.Proofs.Ytmekcfmhaflghaa.Aid Go.Proofs.Ytmekcfmhaflghaa.AidList Go.Proofs.Ytmekcfmhaflghaa.AidShape Go.Proofs.Ytmekcfmhaflghaa.AidTensor Go.Proofs.Ytmekcfmhaflghaa.AidDigs Go.Proofs.YtmekcfmhaflghaaW.PrintWords Go.Proofs.YtmekcfmhaflghaaW.PrintLast Go.Proofs.YtmekcfmhaflghaaW.PrintMore
theorem with_f (l : List Int) (i v : Int) (h : l.length < 17592186044416) (h0 : 0 ≤ i) (h1 : i < l.length) : shape_Shape_with.f l i v = some (l.set i.toNat v) := by
  unfold shape_Shape_with.f; rw [copy_f l h]; simp only [Option.bind_some]; rw [if_pos h0, if_pos h1]
/-- A part of a side, or what stands in its way. -/
def cutS (l : List Int) (i a b : Int) : List Int × Int :=
  if rightS l = true then (if 0 ≤ i ∧ i < l.length ∧ 0 ≤ a ∧ b ≤ rd l i ∧ a < b then (l.set i.toNat (b - a), 0) else ([], 11)) else ([], 20)
theorem rd_mem {l : List Int} {i : Int} (h0 : 0 ≤ i) (h1 : i < l.length) : rd l i ∈ l := by
  obtain ⟨n, rfl⟩ := Int.eq_ofNat_of_zero_le h0
  rw [rd_nat l n (by omega)]; exact List.getElem_mem _
theorem has_f (l : List Int) (i : Int) : shape_Shape_has.f l i = some (decide (0 ≤ i ∧ i < l.length)) := by
  unfold shape_Shape_has.f
  by_cases h : 0 ≤ i
  · rw [if_pos h]; congr 1; rw [decide_eq_decide]; omega
  · rw [if_neg h, decide_eq_false (by omega)]
theorem cut_ev (l : List Int) (i a b : Int) (hn : l.length ≤ 140737488351232) : Ev (fun k => shape_Shape_Cut.f k l i a b) (cutS l i a b) := by
  unfold shape_Shape_Cut.f cutS
  refine Ev.bind (right_ev l hn) ?_
  by_cases c : rightS l = true
  · obtain ⟨h1, h2, h3, h4, h5⟩ := rightS_true c
    simp only [c, if_true, has_f, Option.bind_some, decide_eq_true_eq]
    by_cases hi : 0 ≤ i ∧ i < l.length
    · have hr := h3 _ (rd_mem hi.1 hi.2)
      simp only [hi, hi.1, hi.2, if_true, and_self, true_and]
      by_cases h6 : a < 0
      · rw [if_pos h6, if_neg (by omega)]; exact Ev.now _
      · rw [if_neg h6]
        by_cases h7 : b > rd l i
        · rw [if_pos h7, if_neg (by omega)]; exact Ev.now _
        · rw [if_neg h7]
          by_cases h8 : a ≥ b
          · rw [if_pos h8, if_neg (by omega)]; exact Ev.now _
          · rw [if_neg h8, if_pos (by omega), with_f l i _ (by omega) hi.1 hi.2, w64 (by omega) (by omega)]; exact Ev.now _
    · simp only [hi, if_false]
      rw [if_neg (fun h => hi ⟨h.1, h.2.1⟩)]; exact Ev.now _
  · simp only [c, if_false, Bool.false_eq_true]; exact Ev.now _
theorem rd_cons_zero (x : Int) (l : List Int) : rd (x :: l) ((0 : Nat) : Int) = x := rfl
theorem rd_cons_succ (x : Int) (l : List Int) (j : Nat) : rd (x :: l) ((j + 1 : Nat) : Int) = rd l (j : Int) := by simp [rd]
/-- A place whose indices are all within their sides has a number. -/
theorem place_in : ∀ (s a : List Int) (n : Int), s.length = a.length → (∀ j : Nat, j < s.length → 0 ≤ rd a (j : Int) ∧ rd a (j : Int) < rd s (j : Int)) → (placeFrom n s a).2 = 0
  | [], a, n, hl, h => by unfold placeFrom; rfl
  | x :: s, [], n, hl, h => by simp at hl
  | x :: s, y :: a, n, hl, h => by
    have h0 := h 0 (by simp)
    rw [rd_cons_zero, rd_cons_zero] at h0
    unfold placeFrom
    rw [if_neg (by omega)]
    exact place_in s a _ (by simpa using hl) (fun j hj => by have := h (j + 1) (by simpa using hj); rwa [rd_cons_succ, rd_cons_succ] at this)
theorem digs_lt : ∀ (l : List Int) (p : Int), (∀ y ∈ l, 1 ≤ y) → ∀ j : Nat, j < l.length → 0 ≤ rd (digs l p).1 (j : Int) ∧ rd (digs l p).1 (j : Int) < rd l (j : Int)
  | [], p, h, j, hj => by simp at hj
  | y :: u, p, h, j, hj => by
    have hy := h y List.mem_cons_self
    cases j with
    | zero =>
      simp only [digs]
      rw [rd_cons_zero, rd_cons_zero]
      exact ⟨Int.emod_nonneg _ (by omega), Int.emod_lt_of_pos _ (by omega)⟩
    | succ j =>
      simp only [digs]
      rw [rd_cons_succ, rd_cons_succ]
      exact digs_lt u p (fun z hz => h z (List.mem_cons_of_mem _ hz)) j (by simpa using hj)
theorem rd_set_ne (l : List Int) (i : Nat) (j : Nat) (v : Int) (hj : j < l.length) (h : j ≠ i) : rd (l.set i v) (j : Int) = rd l (j : Int) := by
  rw [rd_nat _ _ (by simpa using hj), rd_nat _ _ hj]; exact List.getElem_set_ne (fun e => h e.symm) _
theorem rd_set_self (l : List Int) (i : Nat) (v : Int) (hj : i < l.length) : rd (l.set i v) (i : Int) = v := by
  rw [rd_nat _ _ (by simpa using hj)]; exact List.getElem_set_self _
theorem cutS_true {l : List Int} {i a b : Int} (h : (cutS l i a b).2 = 0) : rightS l = true ∧ ∃ n : Nat, i = (n : Int) ∧ n < l.length ∧ 0 ≤ a ∧ b ≤ rd l i ∧ a < b ∧ (cutS l i a b).1 = l.set n (b - a) := by
  unfold cutS at h ⊢
  by_cases c : rightS l = true
  · rw [if_pos c] at h ⊢
    by_cases d : 0 ≤ i ∧ i < l.length ∧ 0 ≤ a ∧ b ≤ rd l i ∧ a < b
    · rw [if_pos d]
      exact ⟨c, i.toNat, by omega, by omega, d.2.2.1, d.2.2.2.1, d.2.2.2.2, rfl⟩
    · rw [if_neg d] at h; cases h
  · rw [if_neg c] at h; cases h
theorem prod_set_le : ∀ (l : List Int) (i : Nat) (v : Int), (∀ x ∈ l, 1 ≤ x) → i < l.length → 1 ≤ v → v ≤ rd l (i : Int) → 1 ≤ prod (l.set i v) ∧ prod (l.set i v) ≤ prod l
  | [], i, v, h, hi, _, _ => by simp at hi
  | x :: l, 0, v, h, hi, h1, h2 => by
    rw [rd_cons_zero] at h2
    have hp := prod_ge (fun y hy => h y (List.mem_cons_of_mem _ hy))
    simp only [List.set_cons_zero, prod]
    exact ⟨by have := mul_pos'' h1 hp; omega, Int.mul_le_mul_of_nonneg_right h2 (by omega)⟩
  | x :: l, i + 1, v, h, hi, h1, h2 => by
    rw [rd_cons_succ] at h2
    have hx := h x List.mem_cons_self
    obtain ⟨k1, k2⟩ := prod_set_le l i v (fun y hy => h y (List.mem_cons_of_mem _ hy)) (by simpa using hi) h1 h2
    simp only [List.set_cons_succ, prod]
    exact ⟨by have := mul_pos'' hx k1; omega, Int.mul_le_mul_of_nonneg_left k2 (by omega)⟩
where
  mul_pos'' {a b : Int} (h : 1 ≤ a) (k : 1 ≤ b) : 1 ≤ a * b := by
    have := Int.mul_le_mul h k (by omega) (by omega); simpa using this
theorem cut_right {l : List Int} {n : Nat} {v : Int} (h : rightS l = true) (hn : n < l.length) (h1 : 1 ≤ v) (h2 : v ≤ rd l (n : Int)) : rightS (l.set n v) = true := by
  obtain ⟨r1, r2, r3, r4, r5⟩ := rightS_true h
  have hb := r3 _ (rd_mem (l := l) (i := (n : Int)) (by omega) (by omega))
  obtain ⟨k1, k2⟩ := prod_set_le l n v (fun x hx => (r3 x hx).1) hn h1 h2
  unfold rightS
  rw [Bool.and_eq_true, Bool.and_eq_true, Bool.and_eq_true, decide_eq_true_eq, decide_eq_true_eq, decide_eq_true_eq, List.all_eq_true]
  refine ⟨⟨⟨by simpa using r1, by simpa using r2⟩, fun x hx => ?_⟩, by omega⟩
  unfold inS
  rw [Bool.and_eq_true, decide_eq_true_eq, decide_eq_true_eq]
  rcases List.mem_or_eq_of_mem_set hx with hx | rfl
  · exact r3 x hx
  · omega
/-- The place in the whole that a place of the part is. -/
def cutA (s' : List Int) (side a : Int) (k : Int) : List Int := (digs s' k).1.set side.toNat (rd (digs s' k).1 side + a)
def cutC (s c s' : List Int) (side a : Int) (k : Nat) : Int := rd c (placeS s (cutA s' side a (k : Int))).1
def cutT (s c : List Int) (side a b : Int) : List Int × List Int × Int :=
  if rightT s c = true then (if (cutS s side a b).2 = 0 then ((cutS s side a b).1, (List.range (prod (cutS s side a b).1).toNat).map (cutC s c (cutS s side a b).1 side a), 0) else ([], [], (cutS s side a b).2)) else ([], [], 20)
theorem cut_place {s s' : List Int} {n : Nat} {a b k : Int} (hr : rightS s = true) (hn : n < s.length) (ha : 0 ≤ a) (hb : b ≤ rd s (n : Int)) (hab : a < b) (hs' : s' = s.set n (b - a)) :
    (cutA s' (n : Int) a k).length = s.length ∧ (placeS s (cutA s' (n : Int) a k)).2 = 0 ∧ 0 ≤ rd (digs s' k).1 (n : Int) ∧ rd (digs s' k).1 (n : Int) < b - a := by
  obtain ⟨r1, r2, r3, r4, r5⟩ := rightS_true hr
  have hl : s'.length = s.length := by rw [hs', List.length_set]
  have hp : ∀ y ∈ s', 1 ≤ y := fun y hy => by
    rw [hs'] at hy
    rcases List.mem_or_eq_of_mem_set hy with hy | rfl
    · exact (r3 y hy).1
    · omega
  have hd := digs_lt s' k hp
  have hdn := hd n (by omega)
  rw [show rd s' (n : Int) = b - a by rw [hs']; exact rd_set_self s n _ hn] at hdn
  have hlen : (cutA s' (n : Int) a k).length = s.length := by unfold cutA; rw [List.length_set, digs_length, hl]
  refine ⟨hlen, ?_, hdn⟩
  unfold placeS
  rw [if_pos hr, if_pos hlen]
  refine place_in s _ 0 hlen.symm (fun j hj => ?_)
  unfold cutA
  rw [Int.toNat_natCast]
  by_cases e : j = n
  · subst e
    rw [rd_set_self _ _ _ (by rw [digs_length]; omega)]
    omega
  · rw [rd_set_ne _ _ _ _ (by rw [digs_length]; omega) e]
    have := hd j (by omega)
    rwa [show rd s' (j : Int) = rd s (j : Int) by rw [hs']; exact rd_set_ne s n j _ hj e] at this
end Go.Proofs.Ytmekcfmhaflghaa.AidCut
