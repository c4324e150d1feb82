/- Joined sides: what shape.Join and tensor.Join compute. Conditions: those of each lemma. -/
import Derived.Test.YtmekcfmhaflghaaPJoix6
import Derived.Test.YtmekcfmhaflghaaAidCut
set_option linter.unusedSimpArgs false
set_option linter.unusedVariables false
namespace Go.Proofs.Ytmekcfmhaflghaa.AidJoin
open Go.RowKit Go.Proofs.Ytmekcfmhaflghaa.PJoi Go.Proofs.Ytmekcfmhaflghaa.Aid Go.Proofs.Ytmekcfmhaflghaa.AidList Go.Proofs.Ytmekcfmhaflghaa.AidShape Go.Proofs.Ytmekcfmhaflghaa.AidTensor Go.Proofs.Ytmekcfmhaflghaa.AidDigs Go.Proofs.Ytmekcfmhaflghaa.AidCut Go.Proofs.YtmekcfmhaflghaaW.PrintWords Go.Proofs.YtmekcfmhaflghaaW.PrintLast Go.Proofs.YtmekcfmhaflghaaW.PrintMore
/-- Two shapes put together at a side, or what stands in the way. -/
def joinS (l m : List Int) (i : Int) : List Int × Int :=
  if (rightS l && rightS m && decide (l.length = m.length)) = true then
    (if 0 ≤ i ∧ i < l.length then
      (if rightS (l.set i.toNat (rd l i + rd m i)) = true ∧ m.set i.toNat (rd l i) = l then (l.set i.toNat (rd l i + rd m i), 0) else ([], 20))
    else ([], 11)) else ([], 20)
theorem join_ev (l m : List Int) (i : Int) (hn : l.length ≤ 140737488351232) (hm : m.length ≤ 140737488351232) : Ev (fun k => shape_Shape_Join.f k l m i) (joinS l m i) := by
  unfold shape_Shape_Join.f joinS
  have bad : Ev (fun k => shape_Shape_Join.j0 k l m i true) ([], 20) := Ev.step (fun k => by simp only [shape_Shape_Join.j0, if_true]) (Ev.now _)
  refine Ev.bind (right_ev l hn) ?_
  cases c : rightS l with
  | false => simpa using bad
  | true =>
    simp only [if_true, Bool.true_and]
    refine Ev.bind (right_ev m hm) ?_
    cases d : rightS m with
    | false => simpa using bad
    | true =>
      simp only [if_true, Bool.true_and]
      by_cases e : l.length = m.length
      · obtain ⟨h1, h2, h3, h4, h5⟩ := rightS_true c
        obtain ⟨k1, k2, k3, k4, k5⟩ := rightS_true d
        rw [show ((l.length : Int) != (m.length : Int)) = false by simp [e]]
        rw [if_pos (decide_eq_true e)]
        by_cases hi : 0 ≤ i ∧ i < l.length
        · have hr := h3 _ (rd_mem hi.1 hi.2)
          have hq := k3 _ (rd_mem hi.1 (by omega : i < m.length))
          rw [if_pos hi]
          refine Ev.step (f := fun k => (shape_Shape_Right.f k (l.set i.toNat (rd l i + rd m i))).bind fun t148 => (if t148 = true then ((shape_Shape_with.f m i (rd l i)).bind fun t150 => ((shape_Shape_Equal.f k t150 l).bind fun t153 => (if t153 = true then (some (l.set i.toNat (rd l i + rd m i), 0)) else (some (([] : List Int), 20))))) else (some (([] : List Int), 20)))) (fun k => ?_) ?_
          · simp only [shape_Shape_Join.j0, Bool.false_eq_true, if_false, has_f, Option.bind_some, decide_eq_true_eq]
            rw [if_pos hi, if_pos hi.1, if_pos hi.2, if_pos (by omega), w64 (by omega) (by omega), with_f l i _ (by omega) hi.1 hi.2]
            rfl
          · refine Ev.bind (right_ev _ (by simpa using hn)) ?_
            cases f : rightS (l.set i.toNat (rd l i + rd m i)) with
            | false => simp only [Bool.false_eq_true, if_false, false_and]; exact Ev.now _
            | true =>
              simp only [if_true, true_and, with_f m i _ (by omega : m.length < 17592186044416) hi.1 (by omega), Option.bind_some]
              refine Ev.bind (equal_ev _ _ (by simpa using hm)) ?_
              by_cases g : m.set i.toNat (rd l i) = l
              · simp only [g, decide_true, if_true]; exact Ev.now _
              · simp only [g, decide_false, Bool.false_eq_true, if_false]; exact Ev.now _
        · rw [if_neg hi]
          refine Ev.step (fun k => ?_) (Ev.now _)
          simp only [shape_Shape_Join.j0, Bool.false_eq_true, if_false, has_f, Option.bind_some, decide_eq_true_eq]
          rw [if_neg hi]
      · rw [show ((l.length : Int) != (m.length : Int)) = true by simp; omega]
        rw [if_neg (by simpa using e)]
        exact bad
theorem joinS_true {l m : List Int} {i : Int} (h : (joinS l m i).2 = 0) : rightS l = true ∧ rightS m = true ∧ l.length = m.length ∧ ∃ n : Nat, i = (n : Int) ∧ n < l.length ∧ rightS (l.set n (rd l (n : Int) + rd m (n : Int))) = true ∧ m.set n (rd l (n : Int)) = l ∧ (joinS l m i).1 = l.set n (rd l (n : Int) + rd m (n : Int)) := by
  unfold joinS at h ⊢
  by_cases c : (rightS l && rightS m && decide (l.length = m.length)) = true
  · rw [if_pos c] at h ⊢
    rw [Bool.and_eq_true, Bool.and_eq_true, decide_eq_true_eq] at c
    by_cases d : 0 ≤ i ∧ i < l.length
    · rw [if_pos d] at h ⊢
      by_cases e : rightS (l.set i.toNat (rd l i + rd m i)) = true ∧ m.set i.toNat (rd l i) = l
      · rw [if_pos e]
        obtain ⟨n, rfl⟩ := Int.eq_ofNat_of_zero_le d.1
        rw [Int.toNat_natCast] at e
        exact ⟨c.1.1, c.1.2, c.2, n, rfl, by omega, e.1, e.2, by rw [Int.toNat_natCast]⟩
      · rw [if_neg e] at h; cases h
    · rw [if_neg d] at h; cases h
  · rw [if_neg c] at h; cases h
/-- The cell of the joined tensor at its place number k. -/
def joinC (s c t d s' : List Int) (side : Int) (k : Nat) : Int :=
  if rd s side ≤ rd (digs s' (k : Int)).1 side then rd d (placeS t ((digs s' (k : Int)).1.set side.toNat (rd (digs s' (k : Int)).1 side - rd s side))).1 else rd c (placeS s (digs s' (k : Int)).1).1
def joinT (s c t d : List Int) (side : Int) : List Int × List Int × Int :=
  if (rightT s c && rightT t d) = true then (if (joinS s t side).2 = 0 then ((joinS s t side).1, (List.range (prod (joinS s t side).1).toNat).map (joinC s c t d (joinS s t side).1 side), 0) else ([], [], (joinS s t side).2)) else ([], [], 20)
theorem join_place {s t s' : List Int} {n : Nat} {k : Int} (hr : rightS s = true) (ht : rightS t = true) (hl : s.length = t.length) (hn : n < s.length) (hst : t.set n (rd s (n : Int)) = s) (hs' : s' = s.set n (rd s (n : Int) + rd t (n : Int))) :
    (digs s' k).1.length = s.length ∧ 0 ≤ rd (digs s' k).1 (n : Int) ∧ rd (digs s' k).1 (n : Int) < rd s (n : Int) + rd t (n : Int) ∧ (¬ rd s (n : Int) ≤ rd (digs s' k).1 (n : Int) → (placeS s (digs s' k).1).2 = 0) ∧
      (rd s (n : Int) ≤ rd (digs s' k).1 (n : Int) → (placeS t ((digs s' k).1.set n (rd (digs s' k).1 (n : Int) - rd s (n : Int)))).2 = 0) := by
  obtain ⟨r1, r2, r3, r4, r5⟩ := rightS_true hr
  obtain ⟨q1, q2, q3, q4, q5⟩ := rightS_true ht
  have b1 := r3 _ (rd_mem (l := s) (i := (n : Int)) (by omega) (by omega))
  have b2 := q3 _ (rd_mem (l := t) (i := (n : Int)) (by omega) (by omega))
  have hl' : s'.length = s.length := by rw [hs', List.length_set]
  have hp : ∀ y ∈ s', 1 ≤ y := fun y hy => by
    rw [hs'] at hy
    rcases List.mem_or_eq_of_mem_set hy with hy | rfl
    · exact (r3 y hy).1
    · omega
  have hd := digs_lt s' k hp
  have hdn := hd n (by omega)
  rw [show rd s' (n : Int) = rd s (n : Int) + rd t (n : Int) by rw [hs']; exact rd_set_self s n _ hn] at hdn
  have hlen : (digs s' k).1.length = s.length := by rw [digs_length, hl']
  have hoth : ∀ j : Nat, j < s.length → j ≠ n → 0 ≤ rd (digs s' k).1 (j : Int) ∧ rd (digs s' k).1 (j : Int) < rd s (j : Int) := fun j hj e => by
    have := hd j (by omega)
    rwa [show rd s' (j : Int) = rd s (j : Int) by rw [hs']; exact rd_set_ne s n j _ hj e] at this
  have htj : ∀ j : Nat, j < s.length → j ≠ n → rd t (j : Int) = rd s (j : Int) := fun j hj e => by
    have := rd_set_ne t n j (rd s (n : Int)) (by omega) e
    rw [hst] at this; exact this.symm
  refine ⟨hlen, hdn.1, hdn.2, fun hq => ?_, fun hq => ?_⟩
  · unfold placeS
    rw [if_pos hr, if_pos hlen]
    refine place_in s _ 0 hlen.symm (fun j hj => ?_)
    by_cases e : j = n
    · subst e; exact ⟨hdn.1, by omega⟩
    · exact hoth j hj e
  · unfold placeS
    rw [if_pos ht, if_pos (by rw [List.length_set, hlen, hl])]
    refine place_in t _ 0 (by rw [List.length_set, hlen, hl]) (fun j hj => ?_)
    by_cases e : j = n
    · subst e
      rw [rd_set_self _ _ _ (by omega)]
      exact ⟨by omega, by omega⟩
    · rw [rd_set_ne _ _ _ _ (by omega) e, htj j (by omega) e]
      exact hoth j (by omega) e
end Go.Proofs.Ytmekcfmhaflghaa.AidJoin
