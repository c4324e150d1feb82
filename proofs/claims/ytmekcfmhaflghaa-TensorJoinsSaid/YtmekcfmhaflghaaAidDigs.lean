/- Indices of places: what shape.At makes, as digits. Conditions: those of each lemma. -/
import Derived.Test.YtmekcfmhaflghaaAt
import Derived.Test.YtmekcfmhaflghaaAidList
import Derived.Test.YtmekcfmhaflghaaAidShape
import Derived.Test.YtmekcfmhaflghaaAidTensor
set_option linter.unusedSimpArgs false
set_option linter.unusedVariables false
namespace Go.Proofs.Ytmekcfmhaflghaa.AidDigs
open Go.RowKit Go.Proofs.Ytmekcfmhaflghaa.PJoi Go.Proofs.Ytmekcfmhaflghaa.Aid Go.Proofs.Ytmekcfmhaflghaa.AidList Go.Proofs.Ytmekcfmhaflghaa.AidShape Go.Proofs.YtmekcfmhaflghaaW.PrintWords Go.Proofs.YtmekcfmhaflghaaW.PrintLast Go.Proofs.YtmekcfmhaflghaaW.PrintMore
open Go.Proofs.Ytmekcfmhaflghaa.AidTensor
/-- The indices of a number, and what is left above. -/
def digs : List Int → Int → List Int × Int
  | [], p => ([], p)
  | y :: u, p => ((digs u p).2 % y :: (digs u p).1, (digs u p).2 / y)
theorem digs_length : ∀ (u : List Int) (p : Int), (digs u p).1.length = u.length := by
  intro u p
  induction u with
  | nil => rfl
  | cons y u ih => simp [digs, ih]
theorem digs_left : ∀ (u : List Int) (p : Int), (∀ y ∈ u, 1 ≤ y) → 0 ≤ p → (digs u p).2 = p / prod u := by
  intro u p hu hp
  induction u with
  | nil => simp [digs, prod]
  | cons y u ih =>
    have hy := hu y List.mem_cons_self
    have hu' := fun z hz => hu z (List.mem_cons_of_mem _ hz)
    have h1 := prod_ge hu'
    simp only [digs, prod]
    rw [ih hu', Int.ediv_ediv_of_nonneg (by omega), Int.mul_comm]
/-- The number of the indices is the number. -/
theorem digs_place : ∀ (u : List Int) (p n : Int), (∀ y ∈ u, 1 ≤ y) → placeFrom n u (digs u p).1 = (n * prod u + (p - (digs u p).2 * prod u), 0) := by
  intro u
  induction u with
  | nil => intro p n _; simp [digs, placeFrom, prod]
  | cons y u ih =>
    intro p n hu
    have hy := hu y List.mem_cons_self
    have hu' := fun z hz => hu z (List.mem_cons_of_mem _ hz)
    have hm0 := Int.emod_nonneg (digs u p).2 (show y ≠ 0 by omega)
    have hm1 := Int.emod_lt_of_pos (digs u p).2 (show 0 < y by omega)
    have hd := Int.mul_ediv_add_emod (digs u p).2 y
    simp only [digs, placeFrom, prod]
    rw [if_neg (by omega), ih p _ hu']
    congr 1
    generalize (digs u p).2 / y = d at hd ⊢
    generalize (digs u p).2 % y = m at hd ⊢
    rw [← hd, Int.add_mul, Int.add_mul, ← Int.mul_assoc n y, ← Int.mul_assoc d y, Int.mul_comm d y]
    omega
/-- The indices of the number are the indices. -/
theorem digs_of : ∀ (u t : List Int) (n v : Int), u.length = t.length → placeFrom n u t = (v, 0) → digs u v = (t, n) := by
  intro u
  induction u with
  | nil =>
    intro t n v hl h
    cases t with
    | cons => simp at hl
    | nil => simp only [placeFrom, Prod.mk.injEq, and_true] at h; subst h; rfl
  | cons y u ih =>
    intro t n v hl h
    cases t with
    | nil => simp at hl
    | cons x t =>
      simp only [placeFrom] at h
      by_cases c : x < 0 ∨ y ≤ x
      · rw [if_pos c] at h; cases h
      · rw [if_neg c] at h
        have h1 := ih t _ v (by simpa using hl) h
        simp only [digs, h1]
        have e1 : (n * y + x) % y = x := by
          rw [Int.add_comm, Int.add_mul_emod_self_right]; exact Int.emod_eq_of_lt (by omega) (by omega)
        have e2 : (n * y + x) / y = n := by
          rw [Int.add_comm, Int.add_mul_ediv_right _ _ (by omega), Int.ediv_eq_zero_of_lt (by omega) (by omega)]; omega
        rw [e1, e2]
theorem digs_nonneg : ∀ (u : List Int) (p : Int), (∀ y ∈ u, 1 ≤ y) → 0 ≤ p → 0 ≤ (digs u p).2 ∧ (digs u p).2 ≤ p := by
  intro u p hu hp
  rw [digs_left u p hu hp]
  exact ⟨Int.ediv_nonneg hp (by have := prod_ge hu; omega), Int.ediv_le_self _ hp⟩
/-- What the rounds of At make, from behind. -/
theorem st_digs (l : List Int) (p : Int) (hl : ∀ y ∈ l, 1 ≤ y) (hp : 0 ≤ p) (hp1 : p ≤ 9223372036854775807) : ∀ j : Nat, j ≤ l.length →
    AtW.st l p (List.range j) = (List.replicate (l.length - j) 0 ++ (digs (l.drop (l.length - j)) p).1, (digs (l.drop (l.length - j)) p).2) := by
  intro j
  induction j with
  | zero => intro _; simp [AtW.st, digs]
  | succ j ih =>
    intro hj
    have h0 := ih (by omega)
    rw [List.range_succ, AtW.st_snoc, h0]
    have hi : l.length - (j + 1) < l.length := by omega
    have hd : l.drop (l.length - (j + 1)) = rd l ((l.length - (j + 1) : Nat) : Int) :: l.drop (l.length - j) := by
      rw [List.drop_eq_getElem_cons hi, rd_nat l _ hi, show l.length - (j + 1) + 1 = l.length - j by omega]
    have hm := digs_nonneg (l.drop (l.length - j)) p (fun y hy => hl y (List.mem_of_mem_drop hy)) hp
    have hs : 1 ≤ rd l ((l.length - (j + 1) : Nat) : Int) := by rw [rd_nat l _ hi]; exact hl _ (List.getElem_mem hi)
    unfold AtW.step
    rw [hd]
    simp only [digs]
    rw [show l.length - 1 - j = l.length - (j + 1) by omega]
    generalize rd l ((l.length - (j + 1) : Nat) : Int) = s at hs ⊢
    generalize (digs (l.drop (l.length - j)) p).1 = ds at hm ⊢
    generalize (digs (l.drop (l.length - j)) p).2 = q at hm ⊢
    rw [Int.tmod_eq_emod_of_nonneg hm.1, Int.tdiv_eq_ediv_of_nonneg hm.1]
    have e1 := Int.ediv_nonneg hm.1 (show 0 ≤ s by omega)
    have e2 := Int.ediv_le_self s hm.1
    rw [w64 (x := q / s) (by omega) (by omega), show l.length - j = (l.length - (j + 1)) + 1 by omega, List.replicate_succ', List.append_assoc, List.set_append_right _ _ (by rw [List.length_replicate]; exact Nat.le_refl _), List.length_replicate, Nat.sub_self]
    rfl
theorem st_all (l : List Int) (p : Int) (hl : ∀ y ∈ l, 1 ≤ y) (hp : 0 ≤ p) (hp1 : p ≤ 9223372036854775807) : (AtW.st l p (List.range l.length)).1 = (digs l p).1 := by
  rw [st_digs l p hl hp hp1 l.length (Nat.le_refl _)]
  simp
def atS (s : List Int) (p : Int) : List Int × Int := if rightS s = true then (if p < 0 ∨ prod s ≤ p then ([], 11) else ((digs s p).1, 0)) else ([], 20)
theorem at_fuel (s : List Int) (hn : s.length ≤ 140737488351232) : ∃ fuel, ∀ p, AtW.f fuel s p = some (atS s p) := by
  obtain ⟨K, hK⟩ := size_ev s hn
  refine ⟨K, fun p => ?_⟩
  unfold AtW.f
  rw [show shape_Shape_Size.f K s = some (sizeS s) from hK K (Nat.le_refl _)]
  unfold atS sizeS
  cases e : rightS s with
  | false => simp
  | true =>
    obtain ⟨h1, h2, h3, h4, h5⟩ := rightS_true e
    simp only [if_true, Option.bind_some]
    by_cases c : p < 0
    · simp only [c, true_or, if_true]
    · by_cases d : prod s ≤ p
      · simp only [c, d, or_true, if_true, if_false]
      · simp only [c, d, or_self, if_false]
        rw [if_pos ⟨h2, h3, h5⟩, st_all s p (fun y hy => (h3 y hy).1) (by omega) (by omega)]
theorem at_ev (s : List Int) (p : Int) (hn : s.length ≤ 140737488351232) : Ev (fun k => AtW.f k s p) (atS s p) := by
  obtain ⟨K, hK⟩ := at_fuel s hn
  exact Ev.of (fun k => AtW.mono _ _ k) (hK p)
/-- The number of places, and each of them. -/
theorem at_all (s : List Int) (hr : rightS s = true) : ∃ fuel N : Nat, (N : Int) = prod s ∧ 1 ≤ N ∧ N ≤ 65536 ∧ (∀ k : Nat, k < N → AtW.f fuel s (k : Int) = some ((digs s (k : Int)).1, 0)) ∧ AtW.f fuel s (N : Int) = some ([], 11) := by
  obtain ⟨h1, h2, h3, h4, h5⟩ := rightS_true hr
  obtain ⟨K, hK⟩ := at_fuel s (by omega)
  refine ⟨K, (prod s).toNat, by omega, by omega, by omega, fun k hk => ?_, ?_⟩
  · rw [hK]; unfold atS; rw [if_pos hr, if_neg (by omega)]
  · rw [hK]; unfold atS; rw [if_pos hr, if_pos (by omega)]
end Go.Proofs.Ytmekcfmhaflghaa.AidDigs
