/- The inverse of an order: it is told exactly of a list that holds each place once. Conditions: those of each lemma. -/
import Derived.Test.YtkbonmhegojfdaaPOrdx4
import Derived.Test.YtkbonmhegojfdaaAidOrder
import Derived.Test.YtkbonmhegojfdaaLawsOrdM
set_option linter.unusedSimpArgs false
set_option linter.unusedVariables false
namespace Go.Proofs.Ytkbonmhegojfdaa.LawsOrdI
open Go.RowKit Go.Proofs.Ytkbonmhegojfdaa.POrd Go.Proofs.Ytkbonmhegojfdaa.Aid Go.Proofs.Ytkbonmhegojfdaa.AidList Go.Proofs.Ytkbonmhegojfdaa.AidShape Go.Proofs.Ytkbonmhegojfdaa.AidOrder Go.Proofs.Ytkbonmhegojfdaa.LawsOrdM Go.Proofs.YtkbonmhegojfdaaW.PrintWords Go.Proofs.YtkbonmhegojfdaaW.PrintLast Go.Proofs.YtkbonmhegojfdaaW.PrintMore
theorem aw : athanorlaw25_awake.f = some true := rfl
def Good (l : List Int) : Prop := (∀ j : Nat, j < l.length → 0 ≤ rd l (j : Int) ∧ rd l (j : Int) < (l.length : Int)) ∧ ∀ i j : Nat, i < j → j < l.length → rd l (i : Int) ≠ rd l (j : Int)
theorem good_nodup {l : List Int} (h : Good l) : l.Nodup := by
  unfold List.Nodup
  rw [List.pairwise_iff_getElem]
  intro i j hi hj hij
  have := h.2 i j hij hj
  rwa [rd_nat l i hi, rd_nat l j hj] at this
theorem good_whole {l : List Int} (h : Good l) : Whole l := by
  have hn := good_nodup h
  have hs : ∀ x ∈ l, x ∈ iota l.length := by
    intro x hx
    obtain ⟨j, hj, rfl⟩ := List.getElem_of_mem hx
    have := h.1 j hj
    rw [rd_nat l j hj] at this
    exact iota_mem.2 this
  intro i hi
  rw [hn.count, if_pos]
  rcases Classical.em ((i : Int) ∈ l) with hm | hm
  · exact hm
  · exfalso
    have h1 : ((i : Int) :: l).Nodup := List.nodup_cons.2 ⟨hm, hn⟩
    have h2 := List.Nodup.length_le_of_subset h1 (l₂ := iota l.length) (fun x hx => by
      rcases List.mem_cons.1 hx with rfl | hx
      · exact iota_mem.2 ⟨by omega, by omega⟩
      · exact hs x hx)
    rw [iota_length, List.length_cons] at h2
    omega
theorem whole_mem {l : List Int} (h : Whole l) {i : Nat} (hi : i < l.length) : (i : Int) ∈ l := by
  have := h i hi
  exact List.count_pos_iff.1 (by omega)
theorem whole_good {l : List Int} (h : Whole l) : Good l := by
  have hr : ∀ x ∈ l, x ∈ iota l.length := by
    intro x hx
    rcases Classical.em (x ∈ iota l.length) with hm | hm
    · exact hm
    · exfalso
      have h2 := List.Nodup.length_le_of_subset (iota_nodup l.length) (l₂ := l.erase x) (fun y hy => by
        have h3 := iota_mem.1 hy
        have h4 := whole_mem h (i := y.toNat) (by omega)
        rw [show ((y.toNat : Nat) : Int) = y by omega] at h4
        exact (List.mem_erase_of_ne (fun e => hm (by rw [← e]; exact hy))).2 h4)
      rw [iota_length, List.length_erase, if_pos hx] at h2
      have := List.length_pos_of_mem hx
      omega
  have hn : l.Nodup := by
    rw [List.nodup_iff_count]
    intro a
    rcases Classical.em (a ∈ l) with hm | hm
    · have h3 := iota_mem.1 (hr a hm)
      have h4 := h a.toNat (by omega)
      rw [show ((a.toNat : Nat) : Int) = a by omega] at h4
      omega
    · rw [List.count_eq_zero_of_not_mem hm]; omega
  refine ⟨fun j hj => ?_, fun i j hij hj => ?_⟩
  · rw [rd_nat l j hj]; exact iota_mem.1 (hr _ (List.getElem_mem hj))
  · rw [rd_nat l i (by omega), rd_nat l j hj]
    exact List.pairwise_iff_getElem.1 hn i j _ _ hij
theorem rd_set {l : List Int} {p q : Nat} (v : Int) (hp : p < l.length) (hq : q < l.length) : rd (l.set p v) (q : Int) = if p = q then v else rd l (q : Int) := by
  rw [rd_nat _ _ (by rw [List.length_set]; exact hq), rd_nat _ _ hq, List.getElem_set]
/-- The first i things of l are told, the other places not yet. -/
def Seen (l : List Int) (i : Nat) (y : List Int) : Prop := y.length = l.length ∧ (∀ j : Nat, j < i → 0 ≤ rd l (j : Int) ∧ rd l (j : Int) < (l.length : Int) ∧ rd y (rd l (j : Int)) = (j : Int)) ∧ ∀ n : Nat, n < l.length → (∀ j : Nat, j < i → rd l (j : Int) ≠ (n : Int)) → rd y (n : Int) = -1
theorem seen_good {l y : List Int} (h : Seen l l.length y) : Good l := by
  refine ⟨fun j hj => ⟨(h.2.1 j hj).1, (h.2.1 j hj).2.1⟩, fun i j hij hj e => ?_⟩
  have h1 := (h.2.1 i (by omega)).2.2
  have h2 := (h.2.1 j hj).2.2
  rw [e, h2] at h1
  omega
theorem invLoop (l : List Int) (hl : l.length ≤ 1099511627776) : ∀ (m i : Nat) (y : List Int), i + m = l.length → Seen l i y →
    ∃ res : List Int × Int, Ev (fun k => order_Invert.l0 k l y l (l.length : Int) (i : Int)) res ∧ ((res.2 = 0 ∧ Seen l l.length res.1) ∨ (¬ Good l ∧ res = ([], 11))) := by
  intro m
  induction m with
  | zero =>
    intro i y hi hs
    refine ⟨(y, 0), Ev.step (fun k => ?_) (Ev.now _), .inl ⟨rfl, ?_⟩⟩
    · simp only [order_Invert.l0]; rw [if_neg (by omega)]
    · rwa [show i = l.length by omega] at hs
  | succ m ih =>
    intro i y hi hs
    have hil : i < l.length := by omega
    by_cases c1 : rd l (i : Int) < 0
    · refine ⟨([], 11), Ev.step (fun k => ?_) (Ev.now _), .inr ⟨fun hg => ?_, rfl⟩⟩
      · simp only [order_Invert.l0]; rw [if_pos (by omega), if_pos (by omega), if_pos (by omega), if_pos c1]
      · have := hg.1 i hil; omega
    · by_cases c2 : rd l (i : Int) ≥ (l.length : Int)
      · refine ⟨([], 11), Ev.step (fun k => ?_) (Ev.now _), .inr ⟨fun hg => ?_, rfl⟩⟩
        · simp only [order_Invert.l0]; rw [if_pos (by omega), if_pos (by omega), if_pos (by omega), if_neg c1, if_pos c2]
        · have := hg.1 i hil; omega
      · obtain ⟨p, hp⟩ : ∃ p : Nat, rd l (i : Int) = (p : Int) := ⟨(rd l (i : Int)).toNat, by omega⟩
        have hpl : p < l.length := by omega
        by_cases c3 : rd y (p : Int) ≥ 0
        · refine ⟨([], 11), Ev.step (fun k => ?_) (Ev.now _), .inr ⟨fun hg => ?_, rfl⟩⟩
          · simp only [order_Invert.l0]; rw [if_pos (by omega), if_pos (by omega), if_pos (by omega), if_neg c1, if_neg c2, hp, if_pos (by omega), if_pos (by rw [hs.1]; omega), if_pos c3]
          · have h3 := hs.2.2 p hpl (fun j hj e => hg.2 j i hj hil (by rw [e, hp]))
            omega
        · have hs' : Seen l (i + 1) (y.set p (i : Int)) := by
            refine ⟨by rw [List.length_set]; exact hs.1, fun j hj => ?_, fun n hn hj => ?_⟩
            · by_cases h : j < i
              · obtain ⟨g1, g2, g3⟩ := hs.2.1 j h
                refine ⟨g1, g2, ?_⟩
                obtain ⟨q, hq⟩ : ∃ q : Nat, rd l (j : Int) = (q : Int) := ⟨(rd l (j : Int)).toNat, by omega⟩
                rw [hq] at g2 g3 ⊢
                have hne : p ≠ q := by
                  intro e
                  rw [e, g3] at c3
                  omega
                rw [rd_set _ (by rw [hs.1]; omega) (by rw [hs.1]; omega), if_neg hne, g3]
              · have hji : j = i := by omega
                subst hji
                rw [hp, rd_set _ (by rw [hs.1]; omega) (by rw [hs.1]; omega), if_pos rfl]
                exact ⟨by omega, by omega, rfl⟩
            · have hne : p ≠ n := fun e => hj i (by omega) (by rw [hp, e])
              rw [rd_set _ (by rw [hs.1]; omega) (by rw [hs.1]; omega), if_neg hne]
              exact hs.2.2 n hn (fun j h => hj j (by omega))
          obtain ⟨res, h4, h5⟩ := ih (i + 1) (y.set p (i : Int)) (by omega) hs'
          refine ⟨res, Ev.step (fun k => ?_) h4, h5⟩
          simp only [order_Invert.l0]; rw [if_pos (by omega), if_pos (by omega), if_pos (by omega), if_neg c1, if_neg c2, hp, if_pos (by omega), if_pos (by rw [hs.1]; omega), if_neg c3, Int.toNat_natCast, w64s hil (by omega)]
theorem invert_ev (l : List Int) (hl : l.length ≤ 1000000) : ∃ res : List Int × Int, Ev (fun k => order_Invert.f k l) res ∧ ((res.2 = 0 ∧ Seen l l.length res.1) ∨ (¬ Good l ∧ res = ([], 11))) := by
  obtain ⟨res, h1, h2⟩ := invLoop l (by omega) l.length 0 (List.replicate l.length (-1)) (by omega) ⟨by rw [List.length_replicate], fun j hj => absurd hj (Nat.not_lt_zero _), fun n hn _ => by rw [rd_nat _ _ (by rw [List.length_replicate]; exact hn), List.getElem_replicate]⟩
  refine ⟨res, ?_, h2⟩
  have hr : slices_Repeat_int_int.f [(-1)] (l.length : Int) = some (List.replicate l.length (-1)) := by
    unfold slices_Repeat_int_int.f
    rw [if_pos (show ([(-1)] : List Int).length = 1 from rfl), if_pos (by omega), if_pos (by omega), Int.toNat_natCast]
    rfl
  unfold order_Invert.f
  simp only [hr, Option.bind_some]
  exact h1
theorem seen_whole {l y : List Int} (h : Seen l l.length y) : ∀ n : Nat, n < l.length → ∃ j : Nat, j < l.length ∧ rd l (j : Int) = (n : Int) := by
  intro n hn
  obtain ⟨j, hj, e⟩ := List.getElem_of_mem (whole_mem (good_whole (seen_good h)) hn)
  exact ⟨j, hj, by rw [rd_nat l j hj]; exact e⟩
theorem seen_inv {l y : List Int} (h : Seen l l.length y) : Good y := by
  refine ⟨fun n hn => ?_, fun n m hnm hm e => ?_⟩
  · rw [h.1] at hn ⊢
    obtain ⟨j, hj, ej⟩ := seen_whole h n hn
    rw [← ej, (h.2.1 j hj).2.2]; omega
  · rw [h.1] at hm
    obtain ⟨j, hj, ej⟩ := seen_whole h n (by omega)
    obtain ⟨i, hi, ei⟩ := seen_whole h m hm
    rw [← ej, ← ei, (h.2.1 j hj).2.2, (h.2.1 i hi).2.2] at e
    rw [e] at ej
    omega
theorem seen_back {l y z : List Int} (h : Seen l l.length y) (h' : Seen y y.length z) : z = l := by
  refine ext_rd (by rw [h'.1, h.1]) (fun j hj => ?_)
  rw [h'.1, h.1] at hj
  obtain ⟨g1, g2, g3⟩ := h.2.1 j hj
  obtain ⟨n, hn⟩ : ∃ n : Nat, rd l (j : Int) = (n : Int) := ⟨(rd l (j : Int)).toNat, by omega⟩
  rw [hn] at g2 g3 ⊢
  have := (h'.2.1 n (by rw [h.1]; omega)).2.2
  rw [g3] at this
  exact this
theorem backLoop (l y : List Int) (hl : l.length ≤ 1000000) (h : Seen l l.length y) : ∀ m i : Nat, i + m = l.length → Ev (fun k => athanorlaw25_OrderInverts.l0 k l y l (l.length : Int) (i : Int)) true := by
  intro m
  induction m with
  | zero =>
    intro i hi
    obtain ⟨res, h1, h2⟩ := invert_ev y (by rw [h.1]; exact hl)
    have h3 : res.2 = 0 ∧ Seen y y.length res.1 := by
      rcases h2 with h2 | h2
      · exact h2
      · exact absurd (seen_inv h) h2.1
    refine Ev.step (fun k => by simp only [athanorlaw25_OrderInverts.l0]; rw [if_neg (by omega)]) (Ev.bind h1 ?_)
    rw [h3.1]
    simp only [if_true]
    have e := seen_back h h3.2
    refine Ev.bind (same_ev res.1 l (by rw [e]; omega)) ?_
    simp only [e, decide_true, if_true, aw, Option.bind_some]
    exact Ev.now _
  | succ m ih =>
    intro i hi
    obtain ⟨g1, g2, g3⟩ := h.2.1 i (by omega)
    refine Ev.step (fun k => ?_) (ih (i + 1) (by omega))
    simp only [athanorlaw25_OrderInverts.l0]
    rw [if_pos (by omega), if_pos (by omega), if_pos (by omega), if_pos (by omega), if_pos (by rw [h.1]; omega), if_pos g3, w64s (n := l.length) (by omega) (by omega)]
theorem OrderInverts : athanorlaw25_OrderInverts.Pure := by
  intro l h0 h1 h2
  refine Ev.rounds (g := fun k => athanorlaw25_OrderInverts.f k l) ?_
  unfold athanorlaw25_OrderInverts.f
  by_cases c : ((l.length : Nat) : Int) > 200
  · simp only [c, if_true, aw, Option.bind_some]; exact Ev.now _
  · simp only [c, if_false]
    obtain ⟨⟨y, e⟩, h3, h4⟩ := invert_ev l (by omega)
    refine Ev.bind h3 ?_
    rcases h4 with ⟨h5, h6⟩ | ⟨h5, h6⟩
    · have h7 : e = 0 := h5
      have h6 : Seen l l.length y := h6
      subst h7
      refine Ev.bind (whole_ev l (by omega) (good_whole (seen_good h6))) ?_
      have hb : (((y.length : Nat) : Int) != ((l.length : Nat) : Int)) = false := by rw [h6.1]; simp
      simp only [if_true, hb]
      refine Ev.step (fun k => ?_) (backLoop l y (by omega) h6 l.length 0 (by omega))
      simp only [athanorlaw25_OrderInverts.j0, Bool.false_eq_true, if_false]
      rfl
    · cases h6
      refine Ev.bind (notwhole_ev l (by omega) (fun h => h5 (whole_good h))) ?_
      simp only [Bool.false_eq_true, if_false, if_true, List.length_nil, aw, Option.bind_some]
      exact Ev.now _
end Go.Proofs.Ytkbonmhegojfdaa.LawsOrdI
