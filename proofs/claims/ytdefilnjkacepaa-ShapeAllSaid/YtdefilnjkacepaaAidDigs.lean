/- Indices of places: what shape.At makes, as digits. Conditions: those of each lemma. -/
import Derived.Test.YtdefilnjkacepaaAt
import Derived.Test.YtdefilnjkacepaaAidList
import Derived.Test.YtdefilnjkacepaaAidShape
set_option linter.unusedSimpArgs false
set_option linter.unusedVariables false
namespace Go.Proofs.Ytdefilnjkacepaa.AidDigs
open Go.RowKit Go.Proofs.Ytdefilnjkacepaa.PAll Go.Proofs.Ytdefilnjkacepaa.Aid Go.Proofs.Ytdefilnjkacepaa.AidList Go.Proofs.Ytdefilnjkacepaa.AidShape Go.Proofs.YtdefilnjkacepaaW.PrintWords Go.Proofs.YtdefilnjkacepaaW.PrintLast Go.Proofs.YtdefilnjkacepaaW.PrintMore
/-- The number of a place, from the numbers of the sides before on. -/
def placeFrom (n : Int) : List Int → List Int → Int × Int
  | x :: s, y :: a => if y < 0 ∨ x ≤ y then (0, 11) else placeFrom (n * x + y) s a
  | _, _ => (n, 0)
theorem placeFrom_le : ∀ (s a : List Int) (n q : Int), (∀ x ∈ s, 1 ≤ x) → s.length = a.length → 0 ≤ n → n < q → (placeFrom n s a).2 = 0 → 0 ≤ (placeFrom n s a).1 ∧ (placeFrom n s a).1 < q * prod s := by
  intro s
  induction s with
  | nil => intro a n q _ hl h0 h1 _; cases a with
    | nil => simp only [placeFrom, prod]; omega
    | cons => simp at hl
  | cons x s ih =>
    intro a n q hx hl h0 h1 h2
    cases a with
    | nil => simp at hl
    | cons y a =>
      simp only [placeFrom] at h2 ⊢
      by_cases c : y < 0 ∨ x ≤ y
      · rw [if_pos c] at h2; cases h2
      · rw [if_neg c] at h2 ⊢
        have hx1 := hx x (List.mem_cons_self ..)
        have hm : 0 ≤ n * x := Int.mul_nonneg h0 (by omega)
        have hq : (n + 1) * x ≤ q * x := Int.mul_le_mul_of_nonneg_right (by omega) (by omega)
        rw [Int.add_mul, Int.one_mul] at hq
        have := ih a (n * x + y) (q * x) (fun z hz => hx z (List.mem_cons_of_mem _ hz)) (by simpa using hl) (by omega) (by omega) h2
        rw [Int.mul_assoc] at this
        exact this
theorem placeLoop (s a : List Int) (hl : s.length = a.length) (h4 : s.length ≤ 4) (hs : ∀ x ∈ s, 1 ≤ x ∧ x ≤ 1024) : ∀ (t u : List Int) (i : Nat) (n q : Int), s.drop i = t → a.drop i = u → 0 ≤ n → n < q → q * prod t ≤ 1099511627776 → 1 ≤ q →
    Ev (fun k => shape_Shape_Place.l0 k s n a (a.length : Int) (i : Int)) (placeFrom n t u) := by
  intro t
  induction t with
  | nil =>
    intro u i n q h h' _ _ _ _
    have h1 := drop_nil h
    have h2 : u = [] := by rw [← h']; exact List.drop_eq_nil_of_le (by omega)
    subst h2
    refine Ev.step (fun k => ?_) (Ev.now _)
    simp only [shape_Shape_Place.l0]; rw [if_neg (by omega)]; rfl
  | cons x t ih =>
    intro u i n q h h' h0 hq hp hq1
    obtain ⟨g1, g2, g3⟩ := drop_cons h
    cases u with
    | nil => have := drop_nil h'; omega
    | cons y u =>
      obtain ⟨k1, k2, k3⟩ := drop_cons h'
      have hx := hs x (by rw [← g2]; exact List.mem_of_getElem (h := g1) (by rw [rd_nat s i g1]))
      have hpt : 1 ≤ prod t := prod_ge (fun z hz => (hs z (List.mem_of_mem_drop (by rw [g3]; exact hz))).1)
      simp only [placeFrom]
      by_cases c : y < 0 ∨ x ≤ y
      · rw [if_pos c]
        refine Ev.step (fun k => ?_) (Ev.now _)
        simp only [shape_Shape_Place.l0]
        rw [if_pos (by omega), if_pos (by omega), if_pos (by omega), k2]
        by_cases d : y < 0
        · rw [if_pos d]
        · rw [if_neg d, if_pos (by omega), g2, if_pos (by omega)]
      · rw [if_neg c]
        have hm : 0 ≤ n * x := Int.mul_nonneg h0 (by omega)
        have hqx : (n + 1) * x ≤ q * x := Int.mul_le_mul_of_nonneg_right (by omega) (by omega)
        rw [Int.add_mul, Int.one_mul] at hqx
        have hqp : q * prod (x :: t) = q * x * prod t := by simp only [prod]; rw [Int.mul_assoc]
        have hqx0 : 1 ≤ q * x := Int.le_trans hq1 (by have := Int.mul_le_mul_of_nonneg_left hx.1 (by omega : 0 ≤ q); rwa [Int.mul_one] at this)
        have hqle : q * x ≤ q * x * prod t := by have := Int.mul_le_mul_of_nonneg_left hpt (by omega : 0 ≤ q * x); rwa [Int.mul_one] at this
        rw [hqp] at hp
        refine Ev.step (fun k => ?_) (ih u (i + 1) (n * x + y) (q * x) g3 k3 (by omega) (by omega) hp hqx0)
        simp only [shape_Shape_Place.l0]
        rw [if_pos (by omega), if_pos (by omega), if_pos (by omega), k2, if_neg (by omega), if_pos (by omega), g2, if_neg (by omega), w64 (x := n * x) (by omega) (by omega), w64 (x := n * x + y) (by omega) (by omega), w64s k1 (by omega)]
/-- The number of a place in a shape. -/
def placeS (s a : List Int) : Int × Int := if rightS s = true then (if a.length = s.length then placeFrom 0 s a else (0, 11)) else (0, 20)
theorem place_ev (s a : List Int) (hn : s.length ≤ 140737488351232) : Ev (fun k => shape_Shape_Place.f k s a) (placeS s a) := by
  unfold shape_Shape_Place.f placeS
  refine Ev.bind (right_ev s hn) ?_
  cases e : rightS s with
  | false => simp only [Bool.false_eq_true, if_false]; exact Ev.now _
  | true =>
    obtain ⟨h1, h2, h3, h4, h5⟩ := rightS_true e
    simp only [if_true]
    by_cases f : a.length = s.length
    · rw [if_pos f]
      have := placeLoop s a f.symm h2 h3 s a 0 0 1 rfl rfl (by omega) (by omega) (by omega) (by omega)
      simp only [show ((a.length : Int) = (s.length : Int)) by omega, if_true]
      rw [← show ((a.length : Int) = (s.length : Int)) by omega]
      exact this
    · rw [if_neg f]
      simp only [show ¬ ((a.length : Int) = (s.length : Int)) by omega, if_false]
      exact Ev.now _
theorem placeS_ok {s a : List Int} (h : (placeS s a).2 = 0) : rightS s = true ∧ 0 ≤ (placeS s a).1 ∧ (placeS s a).1 < prod s := by
  unfold placeS at h ⊢
  cases e : rightS s with
  | false => rw [e] at h; simp at h
  | true =>
    obtain ⟨h1, h2, h3, h4, h5⟩ := rightS_true e
    rw [e] at h
    simp only [if_true] at h ⊢
    by_cases f : a.length = s.length
    · rw [if_pos f] at h ⊢
      have := placeFrom_le s a 0 1 (fun x hx => (h3 x hx).1) f.symm (by omega) (by omega) h
      rw [Int.one_mul] at this
      exact ⟨trivial, this⟩
    · rw [if_neg f] at h; cases h
/-- The indices of a number, and what is left above. -/
def digs : List Int → Int → List Int × Int
  | [], p => ([], p)
  | y :: u, p => ((digs u p).2 % y :: (digs u p).1, (digs u p).2 / y)
theorem digs_length : ∀ (u : List Int) (p : Int), (digs u p).1.length = u.length := by
  intro u p
  induction u with
  | nil => rfl
  | cons y u ih => simp [digs, ih]
theorem digs_left : ∀ (u : List Int) (p : Int), (∀ y ∈ u, 1 ≤ y) → 0 ≤ p → (digs u p).2 = p / prod u := by
  intro u p hu hp
  induction u with
  | nil => simp [digs, prod]
  | cons y u ih =>
    have hy := hu y List.mem_cons_self
    have hu' := fun z hz => hu z (List.mem_cons_of_mem _ hz)
    have h1 := prod_ge hu'
    simp only [digs, prod]
    rw [ih hu', Int.ediv_ediv_of_nonneg (by omega), Int.mul_comm]
/-- The number of the indices is the number. -/
theorem digs_place : ∀ (u : List Int) (p n : Int), (∀ y ∈ u, 1 ≤ y) → placeFrom n u (digs u p).1 = (n * prod u + (p - (digs u p).2 * prod u), 0) := by
  intro u
  induction u with
  | nil => intro p n _; simp [digs, placeFrom, prod]
  | cons y u ih =>
    intro p n hu
    have hy := hu y List.mem_cons_self
    have hu' := fun z hz => hu z (List.mem_cons_of_mem _ hz)
    have hm0 := Int.emod_nonneg (digs u p).2 (show y ≠ 0 by omega)
    have hm1 := Int.emod_lt_of_pos (digs u p).2 (show 0 < y by omega)
    have hd := Int.mul_ediv_add_emod (digs u p).2 y
    simp only [digs, placeFrom, prod]
    rw [if_neg (by omega), ih p _ hu']
    congr 1
    generalize (digs u p).2 / y = d at hd ⊢
    generalize (digs u p).2 % y = m at hd ⊢
    rw [← hd, Int.add_mul, Int.add_mul, ← Int.mul_assoc n y, ← Int.mul_assoc d y, Int.mul_comm d y]
    omega
/-- The indices of the number are the indices. -/
theorem digs_of : ∀ (u t : List Int) (n v : Int), u.length = t.length → placeFrom n u t = (v, 0) → digs u v = (t, n) := by
  intro u
  induction u with
  | nil =>
    intro t n v hl h
    cases t with
    | cons => simp at hl
    | nil => simp only [placeFrom, Prod.mk.injEq, and_true] at h; subst h; rfl
  | cons y u ih =>
    intro t n v hl h
    cases t with
    | nil => simp at hl
    | cons x t =>
      simp only [placeFrom] at h
      by_cases c : x < 0 ∨ y ≤ x
      · rw [if_pos c] at h; cases h
      · rw [if_neg c] at h
        have h1 := ih t _ v (by simpa using hl) h
        simp only [digs, h1]
        have e1 : (n * y + x) % y = x := by
          rw [Int.add_comm, Int.add_mul_emod_self_right]; exact Int.emod_eq_of_lt (by omega) (by omega)
        have e2 : (n * y + x) / y = n := by
          rw [Int.add_comm, Int.add_mul_ediv_right _ _ (by omega), Int.ediv_eq_zero_of_lt (by omega) (by omega)]; omega
        rw [e1, e2]
theorem digs_nonneg : ∀ (u : List Int) (p : Int), (∀ y ∈ u, 1 ≤ y) → 0 ≤ p → 0 ≤ (digs u p).2 ∧ (digs u p).2 ≤ p := by
  intro u p hu hp
  rw [digs_left u p hu hp]
  exact ⟨Int.ediv_nonneg hp (by have := prod_ge hu; omega), Int.ediv_le_self _ hp⟩
/-- What the rounds of At make, from behind. -/
theorem st_digs (l : List Int) (p : Int) (hl : ∀ y ∈ l, 1 ≤ y) (hp : 0 ≤ p) (hp1 : p ≤ 9223372036854775807) : ∀ j : Nat, j ≤ l.length →
    AtW.st l p (List.range j) = (List.replicate (l.length - j) 0 ++ (digs (l.drop (l.length - j)) p).1, (digs (l.drop (l.length - j)) p).2) := by
  intro j
  induction j with
  | zero => intro _; simp [AtW.st, digs]
  | succ j ih =>
    intro hj
    have h0 := ih (by omega)
    rw [List.range_succ, AtW.st_snoc, h0]
    have hi : l.length - (j + 1) < l.length := by omega
    have hd : l.drop (l.length - (j + 1)) = rd l ((l.length - (j + 1) : Nat) : Int) :: l.drop (l.length - j) := by
      rw [List.drop_eq_getElem_cons hi, rd_nat l _ hi, show l.length - (j + 1) + 1 = l.length - j by omega]
    have hm := digs_nonneg (l.drop (l.length - j)) p (fun y hy => hl y (List.mem_of_mem_drop hy)) hp
    have hs : 1 ≤ rd l ((l.length - (j + 1) : Nat) : Int) := by rw [rd_nat l _ hi]; exact hl _ (List.getElem_mem hi)
    unfold AtW.step
    rw [hd]
    simp only [digs]
    rw [show l.length - 1 - j = l.length - (j + 1) by omega]
    generalize rd l ((l.length - (j + 1) : Nat) : Int) = s at hs ⊢
    generalize (digs (l.drop (l.length - j)) p).1 = ds at hm ⊢
    generalize (digs (l.drop (l.length - j)) p).2 = q at hm ⊢
    rw [Int.tmod_eq_emod_of_nonneg hm.1, Int.tdiv_eq_ediv_of_nonneg hm.1]
    have e1 := Int.ediv_nonneg hm.1 (show 0 ≤ s by omega)
    have e2 := Int.ediv_le_self s hm.1
    rw [w64 (x := q / s) (by omega) (by omega), show l.length - j = (l.length - (j + 1)) + 1 by omega, List.replicate_succ', List.append_assoc, List.set_append_right _ _ (by rw [List.length_replicate]; exact Nat.le_refl _), List.length_replicate, Nat.sub_self]
    rfl
theorem st_all (l : List Int) (p : Int) (hl : ∀ y ∈ l, 1 ≤ y) (hp : 0 ≤ p) (hp1 : p ≤ 9223372036854775807) : (AtW.st l p (List.range l.length)).1 = (digs l p).1 := by
  rw [st_digs l p hl hp hp1 l.length (Nat.le_refl _)]
  simp
def atS (s : List Int) (p : Int) : List Int × Int := if rightS s = true then (if p < 0 ∨ prod s ≤ p then ([], 11) else ((digs s p).1, 0)) else ([], 20)
theorem at_fuel (s : List Int) (hn : s.length ≤ 140737488351232) : ∃ fuel, ∀ p, AtW.f fuel s p = some (atS s p) := by
  obtain ⟨K, hK⟩ := size_ev s hn
  refine ⟨K, fun p => ?_⟩
  unfold AtW.f
  rw [show shape_Shape_Size.f K s = some (sizeS s) from hK K (Nat.le_refl _)]
  unfold atS sizeS
  cases e : rightS s with
  | false => simp
  | true =>
    obtain ⟨h1, h2, h3, h4, h5⟩ := rightS_true e
    simp only [if_true, Option.bind_some]
    by_cases c : p < 0
    · simp only [c, true_or, if_true]
    · by_cases d : prod s ≤ p
      · simp only [c, d, or_true, if_true, if_false]
      · simp only [c, d, or_self, if_false]
        rw [if_pos ⟨h2, h3, h5⟩, st_all s p (fun y hy => (h3 y hy).1) (by omega) (by omega)]
theorem at_ev (s : List Int) (p : Int) (hn : s.length ≤ 140737488351232) : Ev (fun k => AtW.f k s p) (atS s p) := by
  obtain ⟨K, hK⟩ := at_fuel s hn
  exact Ev.of (fun k => AtW.mono _ _ k) (hK p)
/-- The number of places, and each of them. -/
theorem at_all (s : List Int) (hr : rightS s = true) : ∃ fuel N : Nat, (N : Int) = prod s ∧ 1 ≤ N ∧ N ≤ 65536 ∧ (∀ k : Nat, k < N → AtW.f fuel s (k : Int) = some ((digs s (k : Int)).1, 0)) ∧ AtW.f fuel s (N : Int) = some ([], 11) := by
  obtain ⟨h1, h2, h3, h4, h5⟩ := rightS_true hr
  obtain ⟨K, hK⟩ := at_fuel s (by omega)
  refine ⟨K, (prod s).toNat, by omega, by omega, by omega, fun k hk => ?_, ?_⟩
  · rw [hK]; unfold atS; rw [if_pos hr, if_neg (by omega)]
  · rw [hK]; unfold atS; rw [if_pos hr, if_pos (by omega)]
end Go.Proofs.Ytdefilnjkacepaa.AidDigs
