/- What the laws of cut and joined tensors have in common: places by number, the reference's indices, the small functions. Conditions: those of each lemma. -/
import Derived.Test.YtmekcfmhaflghaaPJoiGv
import Derived.Test.YtmekcfmhaflghaaPJoix4
import Derived.Test.YtmekcfmhaflghaaPJoix1
import Derived.Test.YtmekcfmhaflghaaPJoix5
import Derived.Test.YtmekcfmhaflghaaAidCut
set_option linter.unusedSimpArgs false
set_option linter.unusedVariables false
namespace Go.Proofs.Ytmekcfmhaflghaa.AidRef
open Go.RowKit Go.Proofs.Ytmekcfmhaflghaa.PJoi Go.Proofs.Ytmekcfmhaflghaa.Aid Go.Proofs.Ytmekcfmhaflghaa.AidList Go.Proofs.Ytmekcfmhaflghaa.AidShape Go.Proofs.Ytmekcfmhaflghaa.AidTensor Go.Proofs.Ytmekcfmhaflghaa.AidDigs Go.Proofs.Ytmekcfmhaflghaa.AidCut Go.Proofs.YtmekcfmhaflghaaW.PrintWords Go.Proofs.YtmekcfmhaflghaaW.PrintLast Go.Proofs.YtmekcfmhaflghaaW.PrintMore
theorem emod_mul (Q y P : Int) (hy : 1 ≤ y) (hP : 1 ≤ P) : Q % (y * P) = (Q / P % y) * P + Q % P := by
  have e1 := Int.mul_ediv_add_emod Q P
  have e2 := Int.mul_ediv_add_emod (Q / P) y
  have b1 := Int.emod_nonneg Q (show P ≠ 0 by omega)
  have b2 := Int.emod_lt_of_pos Q (show 0 < P by omega)
  have b3 := Int.emod_nonneg (Q / P) (show y ≠ 0 by omega)
  have b4 := Int.emod_lt_of_pos (Q / P) (show 0 < y by omega)
  generalize Q / P = D at e1 e2 b3 b4 ⊢
  generalize Q % P = r at e1 b1 b2 ⊢
  generalize D % y = d at e2 b3 b4 ⊢
  generalize D / y = z at e2 ⊢
  have h0 : 0 ≤ d * P := Int.mul_nonneg b3 (by omega)
  have h1 : d * P ≤ (y - 1) * P := Int.mul_le_mul_of_nonneg_right (by omega) (by omega)
  have h2 : (y - 1) * P = y * P - P := by rw [Int.sub_mul, Int.one_mul]
  have h3 : Q = (d * P + r) + (y * P) * z := by
    rw [← e1, ← e2, Int.mul_add, Int.mul_comm P d, show P * (y * z) = y * P * z by rw [Int.mul_left_comm, Int.mul_assoc]]; omega
  rw [h3, Int.add_mul_emod_self_left, Int.emod_eq_of_lt (by omega) (by omega)]
/-- The number of a place of the part, in the whole. -/
theorem cutPlace : ∀ (s : List Int) (n : Nat) (w a k acc : Int), (∀ y ∈ s, 1 ≤ y) → n < s.length → 1 ≤ w → 0 ≤ k / prod (s.drop (n + 1)) % w + a → k / prod (s.drop (n + 1)) % w + a < rd s (n : Int) → 0 ≤ k →
    placeFrom acc s (cutA (s.set n w) (n : Int) a k) = (((acc * prod (s.take n) + k / prod (s.drop (n + 1)) / w % prod (s.take n)) * rd s (n : Int) + (k / prod (s.drop (n + 1)) % w + a)) * prod (s.drop (n + 1)) + k % prod (s.drop (n + 1)), 0)
  | [], n, w, a, k, acc, _, h, _, _, _, _ => by simp at h
  | x :: u, 0, w, a, k, acc, hs, h, hw, ha, hx, hk => by
    rw [show (x :: u).drop (0 + 1) = u from rfl] at ha hx
    have hu : ∀ y ∈ u, 1 ≤ y := fun y hy => hs y (List.mem_cons_of_mem _ hy)
    have hB := prod_ge hu
    have hl := digs_left u k hu hk
    have hp := digs_place u k
    have b1 := Int.emod_nonneg (k / prod u) (show w ≠ 0 by omega)
    have b2 := Int.emod_lt_of_pos (k / prod u) (show 0 < w by omega)
    rw [show (((0 : Nat) : Int)) = 0 from rfl] at hx ⊢
    simp only [cutA, List.set_cons_zero, digs, Int.toNat_zero, List.take_zero, List.drop_succ_cons, List.drop_zero, prod, Int.mul_one, Int.emod_one, Int.add_zero]
    rw [show rd (x :: u) 0 = x from rfl] at hx ⊢
    rw [hl, show rd ((k / prod u % w) :: (digs u k).1) 0 = k / prod u % w from rfl]
    unfold placeFrom
    rw [if_neg (by omega), hp _ hu, hl]
    have e1 := Int.mul_ediv_add_emod k (prod u)
    rw [Int.mul_comm (prod u)] at e1
    rw [show k - k / prod u * prod u = k % prod u by omega]
  | y :: u, n + 1, w, a, k, acc, hs, h, hw, ha, hx, hk => by
    rw [show (y :: u).drop (n + 1 + 1) = u.drop (n + 1) from rfl] at ha hx
    have hu : ∀ z ∈ u, 1 ≤ z := fun z hz => hs z (List.mem_cons_of_mem _ hz)
    have hy := hs y List.mem_cons_self
    rw [rd_cons_succ] at hx ⊢
    have hn : n < u.length := by simpa using h
    have hset : ∀ z ∈ u.set n w, 1 ≤ z := fun z hz => by
      rcases List.mem_or_eq_of_mem_set hz with hz | rfl
      · exact hu z hz
      · exact hw
    have hl := digs_left (u.set n w) k hset hk
    have hprod : prod (u.set n w) = prod (u.drop (n + 1)) * w * prod (u.take n) := by
      clear ha hx hl hset hs h
      induction u generalizing n with
      | nil => simp at hn
      | cons z v ih =>
        cases n with
        | zero => simp only [List.set_cons_zero, prod, List.drop_succ_cons, List.drop_zero, List.take_zero, Int.mul_one]; rw [Int.mul_comm]
        | succ n =>
          simp only [List.set_cons_succ, prod, List.drop_succ_cons, List.take_succ_cons]
          rw [ih n (fun q hq => hu q (List.mem_cons_of_mem _ hq)) (by simpa using hn), Int.mul_left_comm]
    have hB : 1 ≤ prod (u.drop (n + 1)) := prod_ge fun z hz => hu z (List.mem_of_mem_drop hz)
    have hP : 1 ≤ prod (u.take n) := prod_ge fun z hz => hu z (List.mem_of_mem_take hz)
    have hD : (digs (u.set n w) k).2 = k / prod (u.drop (n + 1)) / w / prod (u.take n) := by
      rw [hl, hprod, ← Int.ediv_ediv_of_nonneg (Int.mul_nonneg (by omega) (by omega)), ← Int.ediv_ediv_of_nonneg (by omega)]
    have b1 := Int.emod_nonneg (digs (u.set n w) k).2 (show y ≠ 0 by omega)
    have b2 := Int.emod_lt_of_pos (digs (u.set n w) k).2 (show 0 < y by omega)
    have hc : cutA ((y :: u).set (n + 1) w) ((n + 1 : Nat) : Int) a k = ((digs (u.set n w) k).2 % y) :: cutA (u.set n w) (n : Int) a k := by
      simp only [cutA, List.set_cons_succ, digs, Int.toNat_natCast, List.set_cons_succ]
      rw [rd_cons_succ]
    rw [hc]
    unfold placeFrom
    rw [if_neg (by omega), cutPlace u n w a k _ hu hn hw ha hx hk, hD]
    simp only [List.take_succ_cons, List.drop_succ_cons, prod]
    rw [emod_mul (k / prod (u.drop (n + 1)) / w) y (prod (u.take n)) hy hP]
    congr 5
    rw [Int.add_mul, Int.mul_assoc]; omega
theorem prod_split : ∀ (s : List Int) (n : Nat), n < s.length → prod s = prod (s.take n) * rd s (n : Int) * prod (s.drop (n + 1))
  | [], n, h => by simp at h
  | x :: u, 0, h => by simp only [List.take_zero, List.drop_succ_cons, List.drop_zero, prod, Int.one_mul]; rfl
  | x :: u, n + 1, h => by
    simp only [List.take_succ_cons, List.drop_succ_cons, prod]
    rw [rd_cons_succ, prod_split u n (by simpa using h)]
    simp only [Int.mul_assoc]
theorem range_mul {α : Type} (A B : Nat) (g : Nat → α) : (List.range (A * B)).map g = (List.range A).flatMap fun i => (List.range B).map fun j => g (i * B + j) := by
  induction A with
  | zero => simp
  | succ A ih =>
    rw [Nat.succ_mul, List.range_add, List.map_append, ih, List.range_succ, List.flatMap_append]
    simp
theorem range_mul' {α : Type} (A B : Nat) (g : Nat → List α) : (List.range (A * B)).flatMap g = (List.range A).flatMap fun i => (List.range B).flatMap fun j => g (i * B + j) := by
  induction A with
  | zero => simp
  | succ A ih =>
    rw [Nat.succ_mul, List.range_add, List.flatMap_append, ih, List.range_succ, List.flatMap_append]
    simp [List.flatMap_map]
/-- The reference's index, within its bounds. -/
theorem idx {P x B q e j : Int} (hx : 1 ≤ x) (hB : 1 ≤ B) (hq0 : 0 ≤ q) (hq : q < P) (he0 : 0 ≤ e) (he : e < x) (hj0 : 0 ≤ j) (hj : j < B) :
    0 ≤ q * x ∧ 0 ≤ (q * x + e) * B ∧ q * x + e < P * x ∧ (q * x + e) * B + j < P * x * B ∧ q * x + e ≤ (q * x + e) * B := by
  have h1 : 0 ≤ q * x := Int.mul_nonneg hq0 (by omega)
  have h2 : (q + 1) * x ≤ P * x := Int.mul_le_mul_of_nonneg_right (by omega) (by omega)
  rw [Int.add_mul, Int.one_mul] at h2
  have h3 : 0 ≤ (q * x + e) * B := Int.mul_nonneg (by omega) (by omega)
  have h4 : (q * x + e + 1) * B ≤ P * x * B := Int.mul_le_mul_of_nonneg_right (by omega) (by omega)
  rw [Int.add_mul, Int.one_mul] at h4
  have h5 : (q * x + e) * 1 ≤ (q * x + e) * B := Int.mul_le_mul_of_nonneg_left (by omega) (by omega)
  rw [Int.mul_one] at h5
  exact ⟨h1, h3, by omega, by omega, h5⟩
theorem parts_ev (s : List Int) (n : Nat) (hr : rightS s = true) (hn : n < s.length) : Ev (fun k => athanorref04_Parts.f k s (n : Int)) (prod (s.take n), prod (s.drop (n + 1))) := by
  obtain ⟨r1, r2, r3, r4, r5⟩ := rightS_true hr
  refine Ev.congr (f := fun k => (athanorref03_Size.f k (s.take n)).bind fun t => (athanorref03_Size.f k (s.drop (n + 1))).bind fun u => some (t, u)) (fun k => ?_) ?_
  · unfold athanorref04_Parts.f PartsW.f
    rw [if_pos ⟨by omega, by omega, by omega⟩, Int.toNat_natCast, show ((n : Int) + 1).toNat = n + 1 by omega]
  · refine Ev.bind (refSize_ev _ (by rw [List.length_take]; omega) (fun x hx => r3 x (List.mem_of_mem_take hx))) ?_
    refine Ev.bind (refSize_ev _ (by rw [List.length_drop]; omega) (fun x hx => r3 x (List.mem_of_mem_drop hx))) ?_
    exact Ev.now _
theorem flatMap_congr' {α : Type} {f g : Nat → List α} (l : List Nat) (h : ∀ x ∈ l, f x = g x) : l.flatMap f = l.flatMap g := by
  induction l with
  | nil => rfl
  | cons x l ih => rw [List.flatMap_cons, List.flatMap_cons, h x List.mem_cons_self, ih (fun y hy => h y (List.mem_cons_of_mem _ hy))]
theorem awake_ev : Ev (fun k => athanorlaw04_awake.f k) true := Ev.of (fun k => athanorlaw04_awake.mono k) (k := 60) (by decide +kernel)
theorem aw : Ev (fun k => (athanorlaw04_awake.f k).bind fun t => some t) true := Ev.bind awake_ev (Ev.now _)
theorem small_f (s c : List Int) : athanorlaw04_small.f s c = some (decide (s.length ≤ 50 ∧ c.length ≤ 600)) := by
  unfold athanorlaw04_small.f
  by_cases h : (s.length : Int) ≤ 50
  · rw [if_pos h]; congr 1; rw [decide_eq_decide]; omega
  · rw [if_neg h, decide_eq_false (by omega)]
theorem cellsLoop (s c : List Int) (hc : c.length ≤ 100000000) : ∀ (t : List Int) (i : Nat), c.drop i = t → Ev (fun k => athanorlaw04_cells.l0 k (c.take i) c (c.length : Int) (i : Int)) c := by
  intro t
  induction t with
  | nil =>
    intro i h
    have hi := drop_nil h
    refine Ev.step (fun k => ?_) (Ev.now _)
    simp only [athanorlaw04_cells.l0]
    rw [if_neg (by omega), List.take_of_length_le hi]
  | cons x t ih =>
    intro i h
    obtain ⟨h1, h2, h3⟩ := drop_cons h
    refine Ev.step (fun k => ?_) (ih (i + 1) h3)
    simp only [athanorlaw04_cells.l0]
    rw [if_pos (by omega), if_pos (by omega), if_pos (by omega), if_pos (by rw [List.length_take]; omega), w64s h1 (by omega), rd_nat c i h1, List.take_append_getElem h1]
theorem cells_ev (s c : List Int) (hc : c.length ≤ 100000000) : Ev (fun k => athanorlaw04_cells.f k s c) c := by
  unfold athanorlaw04_cells.f
  exact cellsLoop s c hc c 0 (by simp)
theorem sameLoop (s c : List Int) (hc : c.length ≤ 140737488351232) : ∀ (t : List Int) (i : Nat), c.drop i = t → Ev (fun k => athanorlaw04_same.l0 k c (c.length : Int) (i : Int) s c) true := by
  intro t
  induction t with
  | nil =>
    intro i h
    have hi := drop_nil h
    refine Ev.step (fun k => ?_) (Ev.now _)
    simp only [athanorlaw04_same.l0]
    rw [if_neg (by omega)]
  | cons x t ih =>
    intro i h
    obtain ⟨h1, h2, h3⟩ := drop_cons h
    refine Ev.step (fun k => ?_) (ih (i + 1) h3)
    simp only [athanorlaw04_same.l0]
    rw [if_pos (by omega), if_pos (by omega), if_pos (by omega), if_pos (by omega), if_pos trivial, w64s h1 hc]
theorem same4_ev (s c : List Int) (hc : c.length ≤ 140737488351232) : Ev (fun k => athanorlaw04_same.f k s c c) true := by
  unfold athanorlaw04_same.f
  simp only [if_true]
  exact sameLoop s c hc c 0 (by simp)
end Go.Proofs.Ytmekcfmhaflghaa.AidRef
