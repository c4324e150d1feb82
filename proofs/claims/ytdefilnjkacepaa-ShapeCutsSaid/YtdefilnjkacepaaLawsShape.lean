/- Laws of package shape, on the printed functions. Conditions: those of the printed statements (numbers of 64 bits; lists of at most 2^47 - 4096 bytes). -/
import Derived.Test.YtdefilnjkacepaaPShapex
import Derived.Test.YtdefilnjkacepaaAidShape
set_option linter.unusedSimpArgs false
set_option linter.unusedVariables false
namespace Go.Proofs.Ytdefilnjkacepaa.LawsShape
open Go.RowKit Go.Proofs.Ytdefilnjkacepaa.PShape Go.Proofs.Ytdefilnjkacepaa.Aid Go.Proofs.Ytdefilnjkacepaa.AidSafe Go.Proofs.Ytdefilnjkacepaa.AidShape Go.Proofs.YtdefilnjkacepaaW.PrintWords Go.Proofs.YtdefilnjkacepaaW.PrintLast Go.Proofs.YtdefilnjkacepaaW.PrintMore
theorem awake_ev : Ev (fun k => athanorlaw03_awake.f k) true := Ev.of (fun k => athanorlaw03_awake.mono k) (k := 60) (by decide +kernel)
theorem aw : Ev (fun k => (athanorlaw03_awake.f k).bind fun t => some t) true := Ev.bind awake_ev (Ev.now _)
theorem ShapeSizes : athanorlaw03_ShapeSizes.Pure := by
  intro l _ h8 _
  have hn : l.length ≤ 140737488351232 := by omega
  refine Ev.rounds (g := fun k => athanorlaw03_ShapeSizes.f k l) ?_
  unfold athanorlaw03_ShapeSizes.f
  by_cases h : (l.length : Int) > 50
  · simp only [h, if_true]; exact aw
  · simp only [h, if_false]
    refine Ev.bind (size_ev l hn) (Ev.bind (refRight_ev l) ?_)
    simp only [copy_f l (by omega), Option.bind_some]
    refine Ev.bind (right_ev l hn) ?_
    simp only [bne_self_eq_false, Bool.false_eq_true, if_false]
    refine Ev.bind (equal_ev l l hn) ?_
    simp only [decide_true, if_true]
    cases c : rightS l with
    | true =>
      obtain ⟨h1, h2, h3, h4, h5⟩ := rightS_true c
      have e : sizeS l = (prod l, 0) := by unfold sizeS; rw [c]; rfl
      simp only [e, beq_self_eq_true, bne_self_eq_false]
      refine Ev.step (f := fun k => (athanorref03_Size.f k l).bind fun t199 => (if prod l = t199 then ((athanorlaw03_awake.f k).bind fun t200 => (some t200)) else (some false))) (fun k => by simp only [athanorlaw03_ShapeSizes.j0, Bool.false_eq_true, if_false, if_true]) (Ev.bind (refSize_ev l h2 h3) ?_)
      simp only [if_true]; exact aw
    | false =>
      have e : sizeS l = (0, 20) := by unfold sizeS; rw [c]; rfl
      simp only [e]
      exact Ev.step (fun k => by simp [athanorlaw03_ShapeSizes.j0]) aw
theorem in_f (x : Int) : athanorlaw03_ShapeWindows_1.f x = some (inS x) := by
  unfold athanorlaw03_ShapeWindows_1.f inS
  by_cases h : 1 ≤ x
  · rw [if_pos h]; simp [h]
  · rw [if_neg h]; simp [h]
def windowS (a b c : Int) : Int × Int := if (inS a && inS b && inS c && decide (b ≤ a)) = true then ((a - b) / c + 1, 0) else (0, 11)
theorem window_f (a b c : Int) : shape_Window.f a b c = some (windowS a b c) := by
  unfold shape_Window.f windowS
  simp only [within_f, Option.bind_some]
  cases ha : inS a with
  | false => simp
  | true =>
    cases hb : inS b with
    | false => simp
    | true =>
      cases hc : inS c with
      | false => simp
      | true =>
        have ha' := inS_true ha
        have hb' := inS_true hb
        have hc' := inS_true hc
        simp only [if_true, Bool.true_and]
        by_cases h : b > a
        · rw [if_pos h, if_neg (show ¬ decide (b ≤ a) = true by rw [decide_eq_true_eq]; omega)]
        · have hd : 0 ≤ (a - b) / c ∧ (a - b) / c ≤ a - b := ⟨Int.ediv_nonneg (by omega) (by omega), Int.ediv_le_self _ (by omega)⟩
          rw [if_neg h, if_neg (show ¬ c = 0 by omega), if_pos (show decide (b ≤ a) = true by rw [decide_eq_true_eq]; omega), w64 (x := a - b) (by omega) (by omega), tdiv_pos (by omega), w64 (x := (a - b) / c) (by omega) (by omega), w64 (by omega) (by omega)]
theorem count_ev (a b c : Int) (ha : 1 ≤ a ∧ a ≤ 1024) (hb : 1 ≤ b ∧ b ≤ 1024) (hc : 1 ≤ c ∧ c ≤ 1024) (n : Int) (hn : n = (a - b) / c + 1) (hba : b ≤ a) :
    ∀ (d : Nat) (m at_ : Int), m + d = n → at_ = m * c → 0 ≤ m → Ev (fun k => athanorlaw03_ShapeWindows.l0 k a b c n 0 m at_) true := by
  have hdm := Int.mul_ediv_add_emod (a - b) c
  have he1 := Int.emod_nonneg (a - b) (show c ≠ 0 by omega)
  have he2 := Int.emod_lt_of_pos (a - b) (show 0 < c by omega)
  have hd : 0 ≤ (a - b) / c ∧ (a - b) / c ≤ a - b := ⟨Int.ediv_nonneg (by omega) (by omega), Int.ediv_le_self _ (by omega)⟩
  intro d
  induction d with
  | zero =>
    intro m at_ h1 h2 h0
    have hm : at_ = ((a - b) / c) * c + c := by rw [h2, show m = (a - b) / c + 1 by omega, Int.add_mul, Int.one_mul]
    rw [Int.mul_comm] at hdm
    have hle : ((a - b) / c) * c ≤ 1024 := by omega
    have hge : 0 ≤ ((a - b) / c) * c := Int.mul_nonneg hd.1 (by omega)
    refine Ev.step (fun k => ?_) aw
    simp only [athanorlaw03_ShapeWindows.l0]
    rw [w64 (by omega) (by omega), if_neg (by omega), if_pos trivial, if_pos (by omega)]
  | succ d ih =>
    intro m at_ h1 h2 h0
    have hmle : m ≤ (a - b) / c := by omega
    have hmc : m * c ≤ ((a - b) / c) * c := Int.mul_le_mul_of_nonneg_right hmle (by omega)
    have hm0 : 0 ≤ m * c := Int.mul_nonneg h0 (by omega)
    rw [Int.mul_comm] at hdm
    refine Ev.step (fun k => ?_) (ih (m + 1) (at_ + c) (by omega) (by rw [h2, Int.add_mul, Int.one_mul]) (by omega))
    simp only [athanorlaw03_ShapeWindows.l0]
    rw [w64 (x := at_ + b) (by omega) (by omega), if_pos (by omega), w64 (x := m + 1) (by omega) (by omega), w64 (x := at_ + c) (by omega) (by omega)]
theorem ShapeWindows : athanorlaw03_ShapeWindows.Pure := by
  intro a b c _ _ _
  refine Ev.rounds (g := fun k => athanorlaw03_ShapeWindows.f k a b c) ?_
  unfold athanorlaw03_ShapeWindows.f
  simp only [window_f, in_f, Option.bind_some]
  have hno : (inS a && inS b && inS c && decide (b ≤ a)) = false → Ev (fun k => athanorlaw03_ShapeWindows.j0 k a b c (windowS a b c).1 (windowS a b c).2 true) true := by
    intro h
    have e : windowS a b c = (0, 11) := by unfold windowS; rw [h]; rfl
    rw [e]
    exact Ev.step (fun k => by simp only [athanorlaw03_ShapeWindows.j0, if_true]) aw
  cases ha : inS a with
  | false => simp only [Bool.false_eq_true, if_false]; exact hno (by rw [ha]; rfl)
  | true =>
    cases hb : inS b with
    | false => simp only [Bool.false_eq_true, if_false, if_true]; exact hno (by rw [hb]; simp)
    | true =>
      cases hc : inS c with
      | false => simp only [Bool.false_eq_true, if_false, if_true]; exact hno (by rw [hc]; simp)
      | true =>
        simp only [if_true]
        by_cases h : b > a
        · rw [decide_eq_true h]; exact hno (by rw [decide_eq_false (show ¬ b ≤ a by omega)]; simp)
        · rw [decide_eq_false h]
          have e : windowS a b c = ((a - b) / c + 1, 0) := by unfold windowS; rw [ha, hb, hc, decide_eq_true (show b ≤ a by omega)]; rfl
          rw [e]
          have ha' := inS_true ha
          have hb' := inS_true hb
          have hc' := inS_true hc
          have hd : 0 ≤ (a - b) / c ∧ (a - b) / c ≤ a - b := ⟨Int.ediv_nonneg (by omega) (by omega), Int.ediv_le_self _ (by omega)⟩
          refine Ev.step (fun k => ?_) (count_ev a b c ha' hb' hc' _ rfl (by omega) ((a - b) / c + 1).toNat 0 0 (by omega) (by omega) (by omega))
          simp only [athanorlaw03_ShapeWindows.j0, Bool.false_eq_true, if_false]
theorem with_f (l : List Int) (i v : Int) (h : l.length < 17592186044416) (h0 : 0 ≤ i) (h1 : i < l.length) : shape_Shape_with.f l i v = some (l.set i.toNat v) := by
  unfold shape_Shape_with.f; rw [copy_f l h]; simp only [Option.bind_some]; rw [if_pos h0, if_pos h1]
/-- A part of a side, or what stands in its way. -/
def cutS (l : List Int) (i a b : Int) : List Int × Int :=
  if rightS l = true then (if 0 ≤ i ∧ i < l.length ∧ 0 ≤ a ∧ b ≤ rd l i ∧ a < b then (l.set i.toNat (b - a), 0) else ([], 11)) else ([], 20)
theorem rd_mem {l : List Int} {i : Int} (h0 : 0 ≤ i) (h1 : i < l.length) : rd l i ∈ l := by
  obtain ⟨n, rfl⟩ := Int.eq_ofNat_of_zero_le h0
  rw [rd_nat l n (by omega)]; exact List.getElem_mem _
theorem has_f (l : List Int) (i : Int) : shape_Shape_has.f l i = some (decide (0 ≤ i ∧ i < l.length)) := by
  unfold shape_Shape_has.f
  by_cases h : 0 ≤ i
  · rw [if_pos h]; congr 1; rw [decide_eq_decide]; omega
  · rw [if_neg h, decide_eq_false (by omega)]
theorem cut_ev (l : List Int) (i a b : Int) (hn : l.length ≤ 140737488351232) : Ev (fun k => shape_Shape_Cut.f k l i a b) (cutS l i a b) := by
  unfold shape_Shape_Cut.f cutS
  refine Ev.bind (right_ev l hn) ?_
  by_cases c : rightS l = true
  · obtain ⟨h1, h2, h3, h4, h5⟩ := rightS_true c
    simp only [c, if_true, has_f, Option.bind_some, decide_eq_true_eq]
    by_cases hi : 0 ≤ i ∧ i < l.length
    · have hr := h3 _ (rd_mem hi.1 hi.2)
      simp only [hi, hi.1, hi.2, if_true, and_self, true_and]
      by_cases h6 : a < 0
      · rw [if_pos h6, if_neg (by omega)]; exact Ev.now _
      · rw [if_neg h6]
        by_cases h7 : b > rd l i
        · rw [if_pos h7, if_neg (by omega)]; exact Ev.now _
        · rw [if_neg h7]
          by_cases h8 : a ≥ b
          · rw [if_pos h8, if_neg (by omega)]; exact Ev.now _
          · rw [if_neg h8, if_pos (by omega), with_f l i _ (by omega) hi.1 hi.2, w64 (by omega) (by omega)]; exact Ev.now _
    · simp only [hi, if_false]
      rw [if_neg (fun h => hi ⟨h.1, h.2.1⟩)]; exact Ev.now _
  · simp only [c, if_false, Bool.false_eq_true]; exact Ev.now _
theorem rd_set_ne (l : List Int) (i : Nat) (j : Nat) (v : Int) (hj : j < l.length) (h : j ≠ i) : rd (l.set i v) (j : Int) = rd l (j : Int) := by
  rw [rd_nat _ _ (by simpa using hj), rd_nat _ _ hj]; exact List.getElem_set_ne (fun e => h e.symm) _
theorem rd_set_self (l : List Int) (i : Nat) (v : Int) (hj : i < l.length) : rd (l.set i v) (i : Int) = v := by
  rw [rd_nat _ _ (by simpa using hj)]; exact List.getElem_set_self _
theorem cutsLoop (l : List Int) (i : Nat) (a b : Int) (t0 : List Int) (hi : i < l.length) (h4 : l.length ≤ 4) (hw : wrap64 (b - a) = b - a) : ∀ (d j : Nat), j + d = l.length →
    Ev (fun k => athanorlaw03_ShapeCuts.l0 k (l.set i (b - a)) 0 (l.length : Int) (j : Int) l t0 (i : Int) a b) true := by
  intro d
  induction d with
  | zero =>
    intro j h
    refine Ev.step (fun k => ?_) aw
    simp only [athanorlaw03_ShapeCuts.l0]
    rw [if_neg (by omega), if_pos trivial, if_pos (by simp), if_pos (by omega), if_pos (by simp; omega), rd_set_self l i _ hi, if_pos hw.symm]
  | succ d ih =>
    intro j h
    have hj : j < l.length := by omega
    refine Ev.step (fun k => ?_) (ih (j + 1) (by omega))
    simp only [athanorlaw03_ShapeCuts.l0]
    rw [if_pos (by omega), if_pos (by simp; omega), w64s hj (by omega)]
    by_cases e : (j : Int) = (i : Int)
    · rw [if_pos e]
    · rw [if_neg e, if_pos (by omega), if_pos (by omega), rd_set_ne l i j _ hj (by omega), if_pos rfl]
theorem ShapeCuts : athanorlaw03_ShapeCuts.Pure := by
  intro z hz
  obtain ⟨l, t0, i, a, b⟩ := z
  obtain ⟨⟨hl8, _⟩, _, wi, wa, wb⟩ := hz
  simp only at hl8 wi wa wb ⊢
  have hn : l.length ≤ 140737488351232 := by omega
  refine Ev.rounds (g := fun k => athanorlaw03_ShapeCuts.f k l t0 i a b) ?_
  unfold athanorlaw03_ShapeCuts.f
  by_cases h : (l.length : Int) > 50
  · simp only [h, if_true]; exact aw
  · simp only [h, if_false]
    refine Ev.bind (cut_ev l i a b hn) (Ev.bind (refRight_ev l) ?_)
    by_cases c : rightS l = true
    · obtain ⟨h1, h2, h3, h4, h5⟩ := rightS_true c
      simp only [c, if_true]
      have hno : ¬ (0 ≤ i ∧ i < l.length ∧ 0 ≤ a ∧ b ≤ rd l i ∧ a < b) → Ev (fun k => athanorlaw03_ShapeCuts.j0 k (cutS l i a b).1 (cutS l i a b).2 true l t0 i a b) true := by
        intro hh
        have e : cutS l i a b = ([], 11) := by unfold cutS; rw [c, if_pos rfl, if_neg hh]
        rw [e]
        exact Ev.step (fun k => by simp [athanorlaw03_ShapeCuts.j0]) aw
      by_cases i0 : i < 0
      · simp only [i0, if_true]; exact hno (by omega)
      · simp only [i0, if_false]
        by_cases i1 : i ≥ (l.length : Int)
        · simp only [i1, if_true]; exact hno (by omega)
        · simp only [i1, if_false]
          by_cases a0 : a < 0
          · simp only [a0, if_true]; exact hno (by omega)
          · have j0 : 0 ≤ i := by omega
            have j1 : i < (l.length : Int) := by omega
            have hr := h3 _ (rd_mem j0 j1)
            simp only [a0, j0, j1, if_false, if_true]
            by_cases b0 : b > rd l i
            · simp only [b0, if_true]; exact hno (by omega)
            · simp only [b0, if_false]
              by_cases ab : a ≥ b
              · rw [decide_eq_true ab]; exact hno (by omega)
              · rw [decide_eq_false ab]
                have e : cutS l i a b = (l.set i.toNat (b - a), 0) := by unfold cutS; rw [c, if_pos rfl, if_pos ⟨j0, j1, by omega, by omega, by omega⟩]
                rw [e]
                obtain ⟨n, rfl⟩ := Int.eq_ofNat_of_zero_le j0
                refine Ev.step (fun k => ?_) (cutsLoop l n a b t0 (by omega) h2 (w64 (by omega) (by omega)) l.length 0 (by omega))
                simp only [athanorlaw03_ShapeCuts.j0, Bool.false_eq_true, if_false, Int.toNat_natCast]
                rfl
    · have e : cutS l i a b = ([], 20) := by unfold cutS; rw [if_neg c]
      simp only [c, e, if_false, Bool.false_eq_true, if_true, List.length_nil]
      exact aw
end Go.Proofs.Ytdefilnjkacepaa.LawsShape
