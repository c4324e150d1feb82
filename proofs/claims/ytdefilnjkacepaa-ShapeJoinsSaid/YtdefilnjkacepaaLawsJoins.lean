/- Laws of package shape, on the printed functions. Conditions: those of the printed statements (numbers of 64 bits; lists of at most 2^47 - 4096 bytes). -/
import Derived.Test.YtdefilnjkacepaaPJoinsx
import Derived.Test.YtdefilnjkacepaaAidShapeJ
set_option linter.unusedSimpArgs false
set_option linter.unusedVariables false
namespace Go.Proofs.Ytdefilnjkacepaa.LawsJoins
open Go.RowKit Go.Proofs.Ytdefilnjkacepaa.PJoins Go.Proofs.Ytdefilnjkacepaa.Aid Go.Proofs.Ytdefilnjkacepaa.AidSafe Go.Proofs.Ytdefilnjkacepaa.AidShape Go.Proofs.YtdefilnjkacepaaW.PrintWords Go.Proofs.YtdefilnjkacepaaW.PrintLast Go.Proofs.YtdefilnjkacepaaW.PrintMore
theorem awake_ev : Ev (fun k => athanorlaw03_awake.f k) true := Ev.of (fun k => athanorlaw03_awake.mono k) (k := 60) (by decide +kernel)
theorem aw : Ev (fun k => (athanorlaw03_awake.f k).bind fun t => some t) true := Ev.bind awake_ev (Ev.now _)
theorem with_f (l : List Int) (i v : Int) (h : l.length < 17592186044416) (h0 : 0 ≤ i) (h1 : i < l.length) : shape_Shape_with.f l i v = some (l.set i.toNat v) := by
  unfold shape_Shape_with.f; rw [copy_f l h]; simp only [Option.bind_some]; rw [if_pos h0, if_pos h1]
/-- A part of a side, or what stands in its way. -/
def cutS (l : List Int) (i a b : Int) : List Int × Int :=
  if rightS l = true then (if 0 ≤ i ∧ i < l.length ∧ 0 ≤ a ∧ b ≤ rd l i ∧ a < b then (l.set i.toNat (b - a), 0) else ([], 11)) else ([], 20)
theorem rd_mem {l : List Int} {i : Int} (h0 : 0 ≤ i) (h1 : i < l.length) : rd l i ∈ l := by
  obtain ⟨n, rfl⟩ := Int.eq_ofNat_of_zero_le h0
  rw [rd_nat l n (by omega)]; exact List.getElem_mem _
theorem has_f (l : List Int) (i : Int) : shape_Shape_has.f l i = some (decide (0 ≤ i ∧ i < l.length)) := by
  unfold shape_Shape_has.f
  by_cases h : 0 ≤ i
  · rw [if_pos h]; congr 1; rw [decide_eq_decide]; omega
  · rw [if_neg h, decide_eq_false (by omega)]
theorem cut_ev (l : List Int) (i a b : Int) (hn : l.length ≤ 140737488351232) : Ev (fun k => shape_Shape_Cut.f k l i a b) (cutS l i a b) := by
  unfold shape_Shape_Cut.f cutS
  refine Ev.bind (right_ev l hn) ?_
  by_cases c : rightS l = true
  · obtain ⟨h1, h2, h3, h4, h5⟩ := rightS_true c
    simp only [c, if_true, has_f, Option.bind_some, decide_eq_true_eq]
    by_cases hi : 0 ≤ i ∧ i < l.length
    · have hr := h3 _ (rd_mem hi.1 hi.2)
      simp only [hi, hi.1, hi.2, if_true, and_self, true_and]
      by_cases h6 : a < 0
      · rw [if_pos h6, if_neg (by omega)]; exact Ev.now _
      · rw [if_neg h6]
        by_cases h7 : b > rd l i
        · rw [if_pos h7, if_neg (by omega)]; exact Ev.now _
        · rw [if_neg h7]
          by_cases h8 : a ≥ b
          · rw [if_pos h8, if_neg (by omega)]; exact Ev.now _
          · rw [if_neg h8, if_pos (by omega), with_f l i _ (by omega) hi.1 hi.2, w64 (by omega) (by omega)]; exact Ev.now _
    · simp only [hi, if_false]
      rw [if_neg (fun h => hi ⟨h.1, h.2.1⟩)]; exact Ev.now _
  · simp only [c, if_false, Bool.false_eq_true]; exact Ev.now _
theorem rd_set_ne (l : List Int) (i : Nat) (j : Nat) (v : Int) (hj : j < l.length) (h : j ≠ i) : rd (l.set i v) (j : Int) = rd l (j : Int) := by
  rw [rd_nat _ _ (by simpa using hj), rd_nat _ _ hj]; exact List.getElem_set_ne (fun e => h e.symm) _
theorem rd_set_self (l : List Int) (i : Nat) (v : Int) (hj : i < l.length) : rd (l.set i v) (i : Int) = v := by
  rw [rd_nat _ _ (by simpa using hj)]; exact List.getElem_set_self _
/-- Two shapes put together at a side, or what stands in the way. -/
def joinS (l m : List Int) (i : Int) : List Int × Int :=
  if (rightS l && rightS m && decide (l.length = m.length)) = true then
    (if 0 ≤ i ∧ i < l.length then
      (if rightS (l.set i.toNat (rd l i + rd m i)) = true ∧ m.set i.toNat (rd l i) = l then (l.set i.toNat (rd l i + rd m i), 0) else ([], 20))
    else ([], 11)) else ([], 20)
theorem join_ev (l m : List Int) (i : Int) (hn : l.length ≤ 140737488351232) (hm : m.length ≤ 140737488351232) : Ev (fun k => shape_Shape_Join.f k l m i) (joinS l m i) := by
  unfold shape_Shape_Join.f joinS
  have bad : Ev (fun k => shape_Shape_Join.j0 k l m i true) ([], 20) := Ev.step (fun k => by simp only [shape_Shape_Join.j0, if_true]) (Ev.now _)
  refine Ev.bind (right_ev l hn) ?_
  cases c : rightS l with
  | false => simpa using bad
  | true =>
    simp only [if_true, Bool.true_and]
    refine Ev.bind (right_ev m hm) ?_
    cases d : rightS m with
    | false => simpa using bad
    | true =>
      simp only [if_true, Bool.true_and]
      by_cases e : l.length = m.length
      · obtain ⟨h1, h2, h3, h4, h5⟩ := rightS_true c
        obtain ⟨k1, k2, k3, k4, k5⟩ := rightS_true d
        rw [show ((l.length : Int) != (m.length : Int)) = false by simp [e]]
        rw [if_pos (decide_eq_true e)]
        by_cases hi : 0 ≤ i ∧ i < l.length
        · have hr := h3 _ (rd_mem hi.1 hi.2)
          have hq := k3 _ (rd_mem hi.1 (by omega : i < m.length))
          rw [if_pos hi]
          refine Ev.step (f := fun k => (shape_Shape_Right.f k (l.set i.toNat (rd l i + rd m i))).bind fun t148 => (if t148 = true then ((shape_Shape_with.f m i (rd l i)).bind fun t150 => ((shape_Shape_Equal.f k t150 l).bind fun t153 => (if t153 = true then (some (l.set i.toNat (rd l i + rd m i), 0)) else (some (([] : List Int), 20))))) else (some (([] : List Int), 20)))) (fun k => ?_) ?_
          · simp only [shape_Shape_Join.j0, Bool.false_eq_true, if_false, has_f, Option.bind_some, decide_eq_true_eq]
            rw [if_pos hi, if_pos hi.1, if_pos hi.2, if_pos (by omega), w64 (by omega) (by omega), with_f l i _ (by omega) hi.1 hi.2]
            rfl
          · refine Ev.bind (right_ev _ (by simpa using hn)) ?_
            cases f : rightS (l.set i.toNat (rd l i + rd m i)) with
            | false => simp only [Bool.false_eq_true, if_false, false_and]; exact Ev.now _
            | true =>
              simp only [if_true, true_and, with_f m i _ (by omega : m.length < 17592186044416) hi.1 (by omega), Option.bind_some]
              refine Ev.bind (equal_ev _ _ (by simpa using hm)) ?_
              by_cases g : m.set i.toNat (rd l i) = l
              · simp only [g, decide_true, if_true]; exact Ev.now _
              · simp only [g, decide_false, Bool.false_eq_true, if_false]; exact Ev.now _
        · rw [if_neg hi]
          refine Ev.step (fun k => ?_) (Ev.now _)
          simp only [shape_Shape_Join.j0, Bool.false_eq_true, if_false, has_f, Option.bind_some, decide_eq_true_eq]
          rw [if_neg hi]
      · rw [show ((l.length : Int) != (m.length : Int)) = true by simp; omega]
        rw [if_neg (by simpa using e)]
        exact bad
/-- From place n on, the other sides are the same. -/
def okS (s t : List Int) (i n : Nat) : Bool := decide (∀ j, j < s.length → n ≤ j → j ≠ i → rd t (j : Int) = rd s (j : Int))
theorem okS_end (s t : List Int) (i n : Nat) (h : s.length ≤ n) : okS s t i n = true := by
  unfold okS; rw [decide_eq_true_eq]; intro j h1 h2; omega
theorem okS_step (s t : List Int) (i n : Nat) (h : n < s.length) (hn : n = i ∨ rd t (n : Int) = rd s (n : Int)) : okS s t i n = okS s t i (n + 1) := by
  unfold okS; rw [decide_eq_decide]
  constructor
  · intro a j h1 h2 h3; exact a j h1 (by omega) h3
  · intro a j h1 h2 h3
    by_cases e : j = n
    · subst e; rcases hn with hn | hn
      · exact absurd hn h3
      · exact hn
    · exact a j h1 (by omega) h3
theorem okS_not (s t : List Int) (i n : Nat) (h : n < s.length) (h1 : n ≠ i) (h2 : rd t (n : Int) ≠ rd s (n : Int)) : okS s t i n = false := by
  unfold okS; rw [decide_eq_false_iff_not]; intro a; exact h2 (a n h (Nat.le_refl _) h1)
theorem okS_set (s t : List Int) (i : Nat) (hl : s.length = t.length) (hi : i < s.length) : okS s t i 0 = decide (t.set i (rd s (i : Int)) = s) := by
  unfold okS; rw [decide_eq_decide]
  constructor
  · intro a
    refine List.ext_getElem (by simp [hl]) fun j h1 h2 => ?_
    by_cases e : i = j
    · subst e; rw [List.getElem_set_self, rd_nat s i hi]
    · rw [List.getElem_set_ne e]
      have := a j h2 (by omega) (fun e2 => e e2.symm)
      rwa [rd_nat _ _ (by omega), rd_nat _ _ h2] at this
  · intro a j h1 h2 h3
    have := rd_set_ne t i j (rd s (i : Int)) (by omega) h3
    rw [a] at this; exact this.symm
theorem take_set_same (s : List Int) (i : Nat) (v : Int) (hi : i < s.length) : (s.set i v).take (i + 1) = (s.set i v).take i ++ [v] := by
  rw [List.take_succ_eq_append_getElem (by simpa using hi), List.getElem_set_self]
theorem take_set_other (s : List Int) (i n : Nat) (v : Int) (hn : n < s.length) (h : n ≠ i) : (s.set i v).take (n + 1) = (s.set i v).take n ++ [rd s (n : Int)] := by
  rw [List.take_succ_eq_append_getElem (by simpa using hn), List.getElem_set_ne (fun e => h e.symm), rd_nat s n hn]
theorem joinsLoop (x3 : List Int) (x4 : Int) (s t : List Int) (i : Nat) (y z : Int) (hl : s.length = t.length) (hi : i < s.length) (h4 : s.length ≤ 4) (hw : wrap64 (rd s (i : Int) + rd t (i : Int)) = rd s (i : Int) + rd t (i : Int)) : ∀ (d n : Nat) (b : Bool), n + d = s.length →
    Ev (fun k => athanorlaw03_ShapeJoins.j5 k x3 x4 (b && okS s t i n) (s.set i (rd s (i : Int) + rd t (i : Int))) s t (i : Int) y z) true →
    Ev (fun k => athanorlaw03_ShapeJoins.l0 k x3 x4 b true ((s.set i (rd s (i : Int) + rd t (i : Int))).take n) (s.length : Int) (n : Int) s t (i : Int) y z) true := by
  intro d
  induction d with
  | zero =>
    intro n b h hj
    rw [okS_end s t i n (by omega), Bool.and_true] at hj
    refine Ev.step (fun k => ?_) hj
    simp only [athanorlaw03_ShapeJoins.l0]
    rw [if_neg (by omega), List.take_of_length_le (by simp; omega)]
  | succ d ih =>
    intro n b h hj
    have hn : n < s.length := by omega
    have hlt : ((s.set i (rd s (i : Int) + rd t (i : Int))).take n).length < 17592186044416 := by simp; omega
    by_cases e : n = i
    · subst e
      rw [okS_step s t n n hn (Or.inl rfl)] at hj
      refine Ev.step (fun k => ?_) (ih (n + 1) b (by omega) hj)
      simp only [athanorlaw03_ShapeJoins.l0]
      rw [if_pos (by omega), if_pos trivial, if_pos (by omega), if_pos (by omega), if_pos trivial, if_pos (by omega), if_pos hlt, hw, w64s hn (by omega), take_set_same s n _ hn]
    · by_cases f : rd t (n : Int) = rd s (n : Int)
      · rw [okS_step s t i n hn (Or.inr f)] at hj
        refine Ev.step (fun k => ?_) (ih (n + 1) b (by omega) hj)
        simp only [athanorlaw03_ShapeJoins.l0]
        rw [if_pos (by omega), if_pos trivial, if_pos (by omega), if_pos (by omega), if_neg (by omega), if_pos (by omega), if_pos f, if_pos hlt, w64s hn (by omega), take_set_other s i n _ hn e]
      · rw [okS_not s t i n hn e f, Bool.and_false] at hj
        refine Ev.step (fun k => ?_) (ih (n + 1) false (by omega) (by rw [Bool.false_and]; exact hj))
        simp only [athanorlaw03_ShapeJoins.l0]
        rw [if_pos (by omega), if_pos trivial, if_pos (by omega), if_pos (by omega), if_neg (by omega), if_pos (by omega), if_neg f, if_pos hlt, w64s hn (by omega), take_set_other s i n _ hn e]
theorem j6_true (x7 : List Int) (s t : List Int) (i y z : Int) : Ev (fun k => athanorlaw03_ShapeJoins.j6 k [] 20 x7 true s t i y z) true :=
  Ev.step (fun k => by simp only [athanorlaw03_ShapeJoins.j6, if_true, List.length_nil]; rfl) aw
theorem ShapeJoins : athanorlaw03_ShapeJoins.Pure := by
  intro z hz
  obtain ⟨s, t, i, y, z⟩ := z
  obtain ⟨⟨hs8, _⟩, ⟨ht8, _⟩, wi, wa, wb⟩ := hz
  simp only at hs8 ht8 wi ⊢
  have hn : s.length ≤ 140737488351232 := by omega
  have hm : t.length ≤ 140737488351232 := by omega
  refine Ev.rounds (g := fun k => athanorlaw03_ShapeJoins.f k s t i y z) ?_
  unfold athanorlaw03_ShapeJoins.f
  have big : Ev (fun k => athanorlaw03_ShapeJoins.j0 k true s t i y z) true := Ev.step (fun k => by simp only [athanorlaw03_ShapeJoins.j0, if_true]) aw
  by_cases h : (s.length : Int) > 50
  · simp only [h, if_true]; exact big
  · simp only [h, if_false]
    by_cases h' : (t.length : Int) > 50
    · rw [decide_eq_true h']; exact big
    · rw [decide_eq_false h']
      refine Ev.step (f := fun k => (shape_Shape_Join.f k s t i).bind fun bt199 => ((athanorref03_Right.f k s).bind fun t203 => (if t203 = true then ((athanorref03_Right.f k t).bind fun t204 => (if t204 = true then (athanorlaw03_ShapeJoins.j1 k bt199.1 bt199.2 ((s.length : Int) == (t.length : Int)) s t i y z) else (athanorlaw03_ShapeJoins.j1 k bt199.1 bt199.2 false s t i y z))) else (athanorlaw03_ShapeJoins.j1 k bt199.1 bt199.2 false s t i y z)))) (fun k => by simp only [athanorlaw03_ShapeJoins.j0, Bool.false_eq_true, if_false]) ?_
      refine Ev.bind (join_ev s t i hn hm) (Ev.bind (refRight_ev s) ?_)
      have bad : joinS s t i = ([], 20) → Ev (fun k => athanorlaw03_ShapeJoins.j1 k (joinS s t i).1 (joinS s t i).2 false s t i y z) true := by
        intro e
        rw [e]
        have l0 : Ev (fun k => athanorlaw03_ShapeJoins.l0 k [] 20 false false [] (s.length : Int) 0 s t i y z) true := by
          have j5 : Ev (fun k => athanorlaw03_ShapeJoins.j5 k [] 20 false [] s t i y z) true := Ev.step (fun k => by simp only [athanorlaw03_ShapeJoins.j5, Bool.false_eq_true, if_false]) (j6_true [] s t i y z)
          refine Ev.step (fun k => ?_) j5
          simp only [athanorlaw03_ShapeJoins.l0, Bool.false_eq_true, if_false, ite_self]
        have j3 : Ev (fun k => athanorlaw03_ShapeJoins.j3 k [] 20 false false false s t i y z) true := Ev.step (fun k => by simp only [athanorlaw03_ShapeJoins.j3, Bool.false_eq_true, if_false]) l0
        have j2 : Ev (fun k => athanorlaw03_ShapeJoins.j2 k [] 20 false false s t i y z) true := Ev.step (fun k => by simp only [athanorlaw03_ShapeJoins.j2, Bool.false_eq_true, if_false]) j3
        exact Ev.step (fun k => by simp only [athanorlaw03_ShapeJoins.j1, Bool.false_eq_true, if_false]) j2
      cases c : rightS s with
      | false => simp only [Bool.false_eq_true, if_false]; exact bad (by unfold joinS; rw [c]; rfl)
      | true =>
        simp only [if_true]
        refine Ev.bind (refRight_ev t) ?_
        cases d : rightS t with
        | false => simp only [Bool.false_eq_true, if_false]; exact bad (by unfold joinS; rw [c, d]; rfl)
        | true =>
          simp only [if_true]
          by_cases e : s.length = t.length
          · obtain ⟨h1, h2, h3, h4, h5⟩ := rightS_true c
            obtain ⟨k1, k2, k3, k4, k5⟩ := rightS_true d
            rw [show ((s.length : Int) == (t.length : Int)) = true by simp [e]]
            by_cases hi : 0 ≤ i ∧ i < s.length
            · obtain ⟨m, rfl⟩ := Int.eq_ofNat_of_zero_le hi.1
              have hm1 : m < s.length := by omega
              have hr := h3 _ (rd_mem (by omega : (0 : Int) ≤ (m : Int)) hi.2)
              have hq := k3 _ (rd_mem (by omega : (0 : Int) ≤ (m : Int)) (by omega : (m : Int) < t.length))
              have ej : joinS s t (m : Int) = if rightS (s.set m (rd s (m : Int) + rd t (m : Int))) = true ∧ t.set m (rd s (m : Int)) = s then (s.set m (rd s (m : Int) + rd t (m : Int)), 0) else ([], 20) := by
                unfold joinS; rw [c, d, if_pos (by simp [e]), if_pos hi, Int.toNat_natCast]
              have main : Ev (fun k => athanorlaw03_ShapeJoins.j5 k (joinS s t (m : Int)).1 (joinS s t (m : Int)).2 (true && okS s t m 0) (s.set m (rd s (m : Int) + rd t (m : Int))) s t (m : Int) y z) true := by
                rw [Bool.true_and, okS_set s t m e hm1]
                by_cases g : t.set m (rd s (m : Int)) = s
                · rw [decide_eq_true g]
                  refine Ev.step (f := fun k => (athanorref03_Right.f k (s.set m (rd s (m : Int) + rd t (m : Int)))).bind fun t218 => (athanorlaw03_ShapeJoins.j6 k (joinS s t (m : Int)).1 (joinS s t (m : Int)).2 (s.set m (rd s (m : Int) + rd t (m : Int))) (!t218) s t (m : Int) y z)) (fun k => by simp only [athanorlaw03_ShapeJoins.j5, if_true]) ?_
                  refine Ev.bind (refRight_ev _) ?_
                  cases f : rightS (s.set m (rd s (m : Int) + rd t (m : Int))) with
                  | false => rw [ej, if_neg (by simp [f])]; exact j6_true _ _ _ _ _ _
                  | true =>
                    rw [ej, if_pos ⟨f, g⟩]
                    generalize ho : s.set m (rd s (m : Int) + rd t (m : Int)) = o at f ⊢
                    have hol : o.length = s.length := by rw [← ho]; simp
                    have hom : rd o (m : Int) = rd s (m : Int) + rd t (m : Int) := by rw [← ho]; exact rd_set_self s m _ hm1
                    have c1 : cutS o (m : Int) 0 (rd s (m : Int)) = (s, 0) := by
                      unfold cutS
                      rw [if_pos f, if_pos ⟨by omega, by omega, by omega, by omega, by omega⟩, ← ho, Int.toNat_natCast, List.set_set, Int.sub_zero, rd_nat s m hm1, List.set_getElem_self]
                    have c2 : cutS o (m : Int) (rd s (m : Int)) (rd o (m : Int)) = (t, 0) := by
                      unfold cutS
                      rw [if_pos f, if_pos ⟨by omega, by omega, by omega, by omega, by omega⟩, hom, show rd s (m : Int) + rd t (m : Int) - rd s (m : Int) = rd t (m : Int) by omega, ← ho, Int.toNat_natCast, List.set_set]
                      have : s.set m (rd t (m : Int)) = t := by
                        rw [← g, List.set_set, rd_nat t m (by omega), List.set_getElem_self]
                      rw [this]
                    refine Ev.step (f := fun k => (shape_Shape_Cut.f k o (m : Int) 0 (rd s (m : Int))).bind fun bt221 => (if (m : Int) < (o.length : Int) then ((shape_Shape_Cut.f k o (m : Int) (rd s (m : Int)) (rd o (m : Int))).bind fun bt227 => (if (0 : Int) = 0 then ((athanorref03_Same.f k o o).bind fun t231 => (if t231 = true then (if bt221.2 = 0 then ((shape_Shape_Equal.f k bt221.1 s).bind fun t232 => (if t232 = true then (if bt227.2 = 0 then ((shape_Shape_Equal.f k bt227.1 t).bind fun t233 => (if t233 = true then ((athanorlaw03_awake.f k).bind fun t234 => (some t234)) else (none))) else (none)) else (none))) else (none)) else (none))) else (none))) else (none))) (fun k => ?_) ?_
                    · simp only [athanorlaw03_ShapeJoins.j6, Bool.not_true, Bool.false_eq_true, if_false]
                      rw [if_pos (by omega), if_pos hi.2]
                    · refine Ev.bind (cut_ev o (m : Int) 0 (rd s (m : Int)) (by omega)) ?_
                      rw [c1]
                      simp only [show (m : Int) < (o.length : Int) by omega, if_true]
                      refine Ev.bind (cut_ev o (m : Int) (rd s (m : Int)) (rd o (m : Int)) (by omega)) ?_
                      rw [c2]
                      simp only [if_true]
                      refine Ev.bind (same_ev o o (by omega)) ?_
                      simp only [decide_true, if_true]
                      refine Ev.bind (equal_ev s s hn) ?_
                      simp only [decide_true, if_true]
                      refine Ev.bind (equal_ev t t hm) ?_
                      simp only [decide_true, if_true]
                      exact aw
                · rw [decide_eq_false g, ej, if_neg (fun a => g a.2)]
                  exact Ev.step (fun k => by simp only [athanorlaw03_ShapeJoins.j5, Bool.false_eq_true, if_false]) (j6_true (s.set m (rd s (m : Int) + rd t (m : Int))) s t (m : Int) y z)
              have l0 := joinsLoop (joinS s t (m : Int)).1 (joinS s t (m : Int)).2 s t m y z e hm1 h2 (w64 (by omega) (by omega)) s.length 0 true (by omega) main
              rw [List.take_zero] at l0
              have j3 : Ev (fun k => athanorlaw03_ShapeJoins.j3 k (joinS s t (m : Int)).1 (joinS s t (m : Int)).2 true true false s t (m : Int) y z) true := Ev.step (fun k => by simp only [athanorlaw03_ShapeJoins.j3, Bool.false_eq_true, if_false]; rfl) l0
              have j2 : Ev (fun k => athanorlaw03_ShapeJoins.j2 k (joinS s t (m : Int)).1 (joinS s t (m : Int)).2 true true s t (m : Int) y z) true := Ev.step (fun k => by simp only [athanorlaw03_ShapeJoins.j2, if_true, Bool.not_true]) j3
              refine Ev.step (fun k => ?_) j2
              simp only [athanorlaw03_ShapeJoins.j1, if_true]
              rw [if_pos (by omega), decide_eq_true (by omega)]
            · have ej : joinS s t i = ([], 11) := by unfold joinS; rw [c, d, if_pos (by simp [e]), if_neg hi]
              rw [ej]
              have j3 : Ev (fun k => athanorlaw03_ShapeJoins.j3 k [] 11 true false true s t i y z) true := Ev.step (fun k => by simp only [athanorlaw03_ShapeJoins.j3, if_true, List.length_nil]; rfl) aw
              have j2 : Ev (fun k => athanorlaw03_ShapeJoins.j2 k [] 11 true false s t i y z) true := Ev.step (fun k => by simp only [athanorlaw03_ShapeJoins.j2, if_true, Bool.not_false]) j3
              refine Ev.step (fun k => ?_) j2
              simp only [athanorlaw03_ShapeJoins.j1, if_true]
              by_cases i0 : i ≥ 0
              · rw [if_pos i0, decide_eq_false (by omega)]
              · rw [if_neg i0]
          · rw [show ((s.length : Int) == (t.length : Int)) = false by simp; omega]
            exact bad (by unfold joinS; rw [c, d, if_neg (by simp [e])])
end Go.Proofs.Ytdefilnjkacepaa.LawsJoins
