/- Draws that are missing count as nought; only what the places leave of a draw counts. Conditions: those of each lemma. -/
import Derived.Test.YtkbonmhegojfdaaPOrdx4
import Derived.Test.YtkbonmhegojfdaaAidOrder
set_option linter.unusedSimpArgs false
set_option linter.unusedVariables false
namespace Go.Proofs.Ytkbonmhegojfdaa.LawsOrdS
open Go.RowKit Go.Proofs.Ytkbonmhegojfdaa.POrd Go.Proofs.Ytkbonmhegojfdaa.Aid Go.Proofs.Ytkbonmhegojfdaa.AidList Go.Proofs.Ytkbonmhegojfdaa.AidShape Go.Proofs.Ytkbonmhegojfdaa.AidOrder Go.Proofs.YtkbonmhegojfdaaW.PrintWords Go.Proofs.YtkbonmhegojfdaaW.PrintLast Go.Proofs.YtkbonmhegojfdaaW.PrintMore
theorem aw : athanorlaw25_awake.f = some true := rfl
theorem rd_pad (d : List Int) (j i : Nat) : rd (d ++ List.replicate j 0) (i : Int) = rd d (i : Int) := by
  rcases Nat.lt_or_ge i d.length with h | h
  · rw [rd_nat _ _ (by rw [List.length_append]; omega), rd_nat _ _ h, List.getElem_append_left h]
  · rw [rd_out h]
    rcases Nat.lt_or_ge i (d ++ List.replicate j 0).length with h' | h'
    · rw [rd_nat _ _ h', List.getElem_append_right h, List.getElem_replicate]
    · exact rd_out h'
def less (e : List Int) (n i : Nat) : List Int := (List.range (min i n)).map fun k : Nat => rd e (k : Int) % ((n : Int) - k)
theorem less_length (e : List Int) (n i : Nat) : (less e n i).length = min i n := by simp [less]
theorem less_in (e : List Int) (n i : Nat) (h : i < n) : less e n (i + 1) = less e n i ++ [rd e (i : Int) % ((n : Int) - i)] := by
  unfold less; rw [show min (i + 1) n = i + 1 by omega, show min i n = i by omega, List.range_succ, List.map_append]; rfl
theorem less_out (e : List Int) (n i : Nat) (h : n ≤ i) : less e n (i + 1) = less e n i := by
  unfold less; rw [show min (i + 1) n = min i n by omega]
theorem less_rd (e : List Int) (n k : Nat) (h : k < n) : rd (less e n e.length) (k : Int) = rd e (k : Int) % ((n : Int) - k) := by
  rcases Nat.lt_or_ge k e.length with hk | hk
  · rw [rd_nat (less e n e.length) k (by rw [less_length]; omega)]; simp [less]
  · rw [rd_out (d := less e n e.length) (by rw [less_length]; omega), rd_out (d := e) hk]; simp
theorem less_u64 (e : List Int) (n i : Nat) (hn : n ≤ 100) : U64 (less e n i) := by
  intro x hx
  unfold less at hx
  rw [List.mem_map] at hx
  obtain ⟨k, hk, rfl⟩ := hx
  rw [List.mem_range] at hk
  have h1 := Int.emod_nonneg (rd e (k : Int)) (show (n : Int) - k ≠ 0 by omega)
  have h2 := Int.emod_lt_of_pos (rd e (k : Int)) (show 0 < (n : Int) - k by omega)
  omega
theorem pad_u64 {d : List Int} (h : U64 d) (j : Nat) : U64 (d ++ List.replicate j 0) := by
  intro x hx
  rw [List.mem_append] at hx
  rcases hx with hx | hx
  · exact h x hx
  · rw [List.mem_replicate] at hx; omega
theorem mix_pad (d : List Int) (n j : Nat) : mixOf (d ++ List.replicate j 0) n = mixOf d n :=
  mixs_congr n _ _ (fun k b _ _ _ => by unfold toOf; rw [rd_pad]) (by omega)
theorem mix_less (e : List Int) (n : Nat) : mixOf (less e n e.length) n = mixOf e n :=
  mixs_congr n _ _ (fun k b h _ _ => by unfold toOf; rw [less_rd e n k (by omega), show (n : Int) - k = (b : Int) + 1 by omega, Int.emod_emod_of_dvd _ (Int.dvd_refl _)]) (by omega)
theorem lessLoop (n : Nat) (hn : n ≤ 100) (A B e : List Int) (he : U64 e) (hl : e.length ≤ 300) (hA : A.length ≤ 1024) (hB : A = B) (hC : A = mixOf e n) : ∀ (t : List Int) (i : Nat), e.drop i = t → i ≤ e.length →
    Ev (fun k => athanorlaw25_OrderSame.l1 k (n : Int) A 0 B 0 (less e n i) e (e.length : Int) (i : Int)) true := by
  intro t
  induction t with
  | nil =>
    intro i h hi
    have h1 := drop_nil h
    refine Ev.step (f := fun k => _) (fun k => by simp only [athanorlaw25_OrderSame.l1]; rw [if_neg (by omega)]) ?_
    have hi2 : i = e.length := by omega
    subst hi2
    refine Ev.bind (mix_ev (less e n e.length) n (by omega) (less_u64 e n _ hn)) ?_
    simp only [if_true]
    refine Ev.bind (same_ev A B (by omega)) ?_
    simp only [hB, decide_true, if_true]
    refine Ev.bind (same_ev B (mixOf (less e n e.length) n) (by rw [← hB]; omega)) ?_
    rw [mix_less, ← hB, hC]
    simp only [decide_true, if_true, aw, Option.bind_some]
    exact Ev.now _
  | cons x t ih =>
    intro i h hi
    obtain ⟨g1, g2, g3⟩ := drop_cons h
    have e1 : wrap64 ((n : Int) - (i : Int)) = (n : Int) - i := w64 (by omega) (by omega)
    by_cases c : i < n
    · have e2 : IntKind.u64.wrap ((n : Int) - i) = (n : Int) - i := wu64 (by omega) (by omega)
      refine Ev.step (fun k => ?_) (ih (i + 1) g3 (by omega))
      simp only [athanorlaw25_OrderSame.l1]
      rw [if_pos (by omega), if_pos (by omega), if_pos (by omega), e1, e2, if_pos (by omega), if_neg (by omega), if_pos (by rw [less_length]; omega), Int.tmod_eq_emod_of_nonneg (he.rd i).1, ← less_in e n i c, w64s g1 (by omega)]
    · refine Ev.step (fun k => ?_) (ih (i + 1) g3 (by omega))
      simp only [athanorlaw25_OrderSame.l1]
      rw [if_pos (by omega), if_pos (by omega), if_pos (by omega), e1, if_neg (by omega), less_out e n i (by omega), w64s g1 (by omega)]
theorem j2_ev (n : Nat) (hn : n ≤ 100) (d : List Int) (hd : U64 d) (j : Nat) (hj : d.length + j ≤ 300) : Ev (fun k => athanorlaw25_OrderSame.j2 k (n : Int) (mixOf d n) 0 (d ++ List.replicate j 0)) true := by
  refine Ev.step (fun k => by simp only [athanorlaw25_OrderSame.j2]; rfl) (Ev.bind (mix_ev (d ++ List.replicate j 0) n (by omega) (pad_u64 hd j)) ?_)
  have hl : (mixOf d n).length = n := by rw [(mixOf_perm d n).length_eq, iota_length]
  exact lessLoop n hn (mixOf d n) (mixOf (d ++ List.replicate j 0) n) (d ++ List.replicate j 0) (pad_u64 hd j) (by rw [List.length_append, List.length_replicate]; omega) (by omega) (mix_pad d n j).symm (mix_pad d n j).symm _ 0 rfl (by omega)
theorem padLoop (n : Nat) (hn : n ≤ 100) (d : List Int) (hd : U64 d) (hl : d.length ≤ 200) : ∀ m j : Nat, (n - 1) - (d.length + j) = m → d.length + j ≤ 300 → Ev (fun k => athanorlaw25_OrderSame.l0 k (n : Int) (mixOf d n) 0 (d ++ List.replicate j 0)) true := by
  have nd : order_Need.f (n : Int) = some (((n - 1 : Nat) : Int)) := by
    unfold order_Need.f mx
    rw [w64 (by omega) (by omega)]
    congr 1
    split <;> omega
  intro m
  induction m with
  | zero =>
    intro j hm hj
    refine Ev.step (fun k => ?_) (j2_ev n hn d hd j hj)
    simp only [athanorlaw25_OrderSame.l0, nd, Option.bind_some]
    rw [if_neg (by rw [List.length_append, List.length_replicate]; omega)]
  | succ m ih =>
    intro j hm hj
    refine Ev.step (fun k => ?_) (ih (j + 1) (by omega) (by omega))
    simp only [athanorlaw25_OrderSame.l0, nd, Option.bind_some]
    have hle : (d ++ List.replicate j (0 : Int)).length = d.length + j := by rw [List.length_append, List.length_replicate]
    rw [if_pos (by rw [hle]; omega), if_pos (by rw [hle]; omega), if_pos (by rw [hle]; omega), List.append_assoc, ← List.replicate_succ']
theorem OrderSame : athanorlaw25_OrderSame.Pure := by
  intro a0 d h0 h1 h2 hd
  have hd' : U64 d := U64.of hd
  refine Ev.rounds (g := fun k => athanorlaw25_OrderSame.f k a0 d) ?_
  unfold athanorlaw25_OrderSame.f
  have big : Ev (fun k => athanorlaw25_OrderSame.j0 k a0 d true) true := Ev.step (fun k => by simp only [athanorlaw25_OrderSame.j0, if_true, aw, Option.bind_some]) (Ev.now _)
  by_cases c : a0 < 0
  · simp only [c, if_true]; exact big
  · by_cases c1 : a0 > 100
    · simp only [c, c1, if_true, if_false]; exact big
    · simp only [c, c1, if_false]
      by_cases c2 : ((d.length : Nat) : Int) > 200
      · rw [decide_eq_true c2]; exact big
      · rw [decide_eq_false c2]
        obtain ⟨n, rfl⟩ : ∃ n : Nat, a0 = (n : Int) := ⟨a0.toNat, by omega⟩
        refine Ev.step (fun k => by simp only [athanorlaw25_OrderSame.j0, Bool.false_eq_true, if_false]; rfl) (Ev.bind (mix_ev d n (by omega) hd') ?_)
        have hl : ([] : List Int).length + d.length < 17592186044416 := by rw [List.length_nil]; omega
        simp only [Option.bind_some, hl, if_true]
        have := padLoop n (by omega) d hd' (by omega) _ 0 rfl (by omega)
        simpa using this
end Go.Proofs.Ytkbonmhegojfdaa.LawsOrdS
