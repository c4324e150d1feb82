/- Law TensorJoins of package tensor, on the printed functions. Conditions: those of the printed statement (numbers of 64 bits). -/
import Derived.Test.YtmekcfmhaflghaaPJoix8
import Derived.Test.YtmekcfmhaflghaaAidRef
import Derived.Test.YtmekcfmhaflghaaAidJoin
set_option linter.unusedSimpArgs false
set_option linter.unusedVariables false
namespace Go.Proofs.Ytmekcfmhaflghaa.LawsJoinsT
open Go.RowKit Go.Proofs.Ytmekcfmhaflghaa.PJoi Go.Proofs.Ytmekcfmhaflghaa.Aid Go.Proofs.Ytmekcfmhaflghaa.AidList Go.Proofs.Ytmekcfmhaflghaa.AidShape Go.Proofs.Ytmekcfmhaflghaa.AidTensor Go.Proofs.Ytmekcfmhaflghaa.AidDigs Go.Proofs.Ytmekcfmhaflghaa.AidCut Go.Proofs.Ytmekcfmhaflghaa.AidRef Go.Proofs.Ytmekcfmhaflghaa.AidJoin Go.Proofs.YtmekcfmhaflghaaW.PrintWords Go.Proofs.YtmekcfmhaflghaaW.PrintLast Go.Proofs.YtmekcfmhaflghaaW.PrintMore
theorem idx2 {P x B q k : Int} (hx : 1 ≤ x) (hB : 1 ≤ B) (hq0 : 0 ≤ q) (hq : q < P) (hk0 : 0 ≤ k) (hk : k < x * B) :
    0 ≤ q * x ∧ 0 ≤ q * x * B ∧ q * x ≤ q * x * B ∧ q * x * B + k < P * x * B := by
  have h1 : 0 ≤ q * x := Int.mul_nonneg hq0 (by omega)
  have h3 : 0 ≤ q * x * B := Int.mul_nonneg h1 (by omega)
  have h5 : q * x * 1 ≤ q * x * B := Int.mul_le_mul_of_nonneg_left (by omega) h1
  rw [Int.mul_one] at h5
  have h2 : (q + 1) * (x * B) ≤ P * (x * B) := Int.mul_le_mul_of_nonneg_right (by omega) (Int.mul_nonneg (by omega) (by omega))
  rw [Int.add_mul, Int.one_mul, ← Int.mul_assoc, ← Int.mul_assoc] at h2
  exact ⟨h1, h3, h5, by omega⟩
theorem digs_at : ∀ (l : List Int) (n : Nat) (k : Int), (∀ y ∈ l, 1 ≤ y) → n < l.length → 0 ≤ k → rd (digs l k).1 (n : Int) = k / prod (l.drop (n + 1)) % rd l (n : Int)
  | [], n, k, _, h, _ => by simp at h
  | y :: u, 0, k, hl, h, hk => by
    simp only [digs, List.drop_succ_cons, List.drop_zero]
    rw [rd_cons_zero, rd_cons_zero, digs_left u k (fun z hz => hl z (List.mem_cons_of_mem _ hz)) hk]
  | y :: u, n + 1, k, hl, h, hk => by
    simp only [digs, List.drop_succ_cons]
    rw [rd_cons_succ, rd_cons_succ]
    exact digs_at u n k (fun z hz => hl z (List.mem_cons_of_mem _ hz)) (by simpa using h) hk
theorem set_self (l : List Int) (n : Nat) (h : n < l.length) : l.set n (rd l (n : Int)) = l := by
  rw [rd_nat l n h]; exact List.set_getElem_self h
theorem rd_range (N : Nat) (g : Nat → Int) {K : Nat} (h : K < N) : rd ((List.range N).map g) (K : Int) = g K := by
  rw [rd_nat _ _ (by simpa using h)]; simp
theorem dec3 {P w B q m j : Nat} (hB : 0 < B) (hq : q < P) (hm : m < w) (hj : j < B) :
    (((q * w + m) * B + j : Nat) : Int) / (B : Int) % (w : Int) = (m : Int) ∧ (((q * w + m) * B + j : Nat) : Int) / (B : Int) / (w : Int) % (P : Int) = (q : Int) ∧ (((q * w + m) * B + j : Nat) : Int) % (B : Int) = (j : Int) ∧ (q * w + m) * B + j < P * w * B := by
  have hK1 : ((q * w + m) * B + j) / B = q * w + m := by rw [Nat.mul_comm, Nat.mul_add_div hB, Nat.div_eq_of_lt hj]; rfl
  have hK2 : ((q * w + m) * B + j) % B = j := by rw [Nat.mul_comm, Nat.mul_add_mod, Nat.mod_eq_of_lt hj]
  have hQ1 : (q * w + m) / w = q := by rw [Nat.mul_comm, Nat.mul_add_div (by omega), Nat.div_eq_of_lt hm]; rfl
  have hQ2 : (q * w + m) % w = m := by rw [Nat.mul_comm, Nat.mul_add_mod, Nat.mod_eq_of_lt hm]
  have e1 : (q + 1) * w ≤ P * w := Nat.mul_le_mul_right _ hq
  rw [Nat.succ_mul] at e1
  have e2 : (q * w + m + 1) * B ≤ P * w * B := Nat.mul_le_mul_right _ (by omega)
  rw [Nat.succ_mul] at e2
  refine ⟨?_, ?_, ?_, by omega⟩
  · rw [← Int.natCast_ediv, hK1, ← Int.natCast_emod, hQ2]
  · rw [← Int.natCast_ediv, hK1, ← Int.natCast_ediv, hQ1, ← Int.natCast_emod, Nat.mod_eq_of_lt hq]
  · rw [← Int.natCast_emod, hK2]
/-- A number below P * x * B is such a sum. -/
theorem dec3_of {P x B K : Nat} (hB : 0 < B) (hx : 0 < x) (hK : K < P * x * B) : ∃ q m j, q < P ∧ m < x ∧ j < B ∧ K = (q * x + m) * B + j := by
  refine ⟨K / B / x, K / B % x, K % B, ?_, Nat.mod_lt _ hx, Nat.mod_lt _ hB, ?_⟩
  · rw [Nat.div_lt_iff_lt_mul hx, Nat.div_lt_iff_lt_mul hB]; exact hK
  · have h1 := Nat.div_add_mod (K / B) x
    have h2 := Nat.div_add_mod K B
    rw [Nat.mul_comm x] at h1
    rw [h1, Nat.mul_comm (K / B) B]; exact h2.symm
/-- What is known of two shapes that are put together at side n. -/
structure Two (s t : List Int) (n P x z B : Nat) : Prop where
  hs : rightS s = true
  ht : rightS t = true
  hl : s.length = t.length
  hn : n < s.length
  set : t.set n (x : Int) = s
  sx : rd s (n : Int) = (x : Int)
  tz : rd t (n : Int) = (z : Int)
  hx : 0 < x
  hz : 0 < z
  hB : 0 < B
  sP : prod (s.take n) = (P : Int)
  sB : prod (s.drop (n + 1)) = (B : Int)
theorem Two.tP {s t : List Int} {n P x z B : Nat} (h : Two s t n P x z B) : prod (t.take n) = (P : Int) := by
  rw [← h.sP, ← h.set, List.take_set_of_le (Nat.le_refl n)]
theorem Two.tB {s t : List Int} {n P x z B : Nat} (h : Two s t n P x z B) : prod (t.drop (n + 1)) = (B : Int) := by
  rw [← h.sB, ← h.set, List.drop_set_of_lt (Nat.lt_succ_self n)]
theorem Two.st {s t : List Int} {n P x z B : Nat} (h : Two s t n P x z B) (w : Int) : s.set n w = t.set n w := by
  rw [← h.set, List.set_set]
theorem Two.make {s t : List Int} {n : Nat} (hs : rightS s = true) (ht : rightS t = true) (hl : s.length = t.length) (hn : n < s.length) (hst : t.set n (rd s (n : Int)) = s) : ∃ P x z B, Two s t n P x z B := by
  obtain ⟨r1, r2, r3, r4, r5⟩ := rightS_true hs
  obtain ⟨q1, q2, q3, q4, q5⟩ := rightS_true ht
  have b1 := r3 _ (rd_mem (l := s) (i := (n : Int)) (by omega) (by omega))
  have b2 := q3 _ (rd_mem (l := t) (i := (n : Int)) (by omega) (by omega))
  have hP1 : 1 ≤ prod (s.take n) := prod_ge fun y hy => (r3 y (List.mem_of_mem_take hy)).1
  have hB1 : 1 ≤ prod (s.drop (n + 1)) := prod_ge fun y hy => (r3 y (List.mem_of_mem_drop hy)).1
  obtain ⟨P, hP⟩ := Int.eq_ofNat_of_zero_le (show 0 ≤ prod (s.take n) by omega)
  obtain ⟨B, hB⟩ := Int.eq_ofNat_of_zero_le (show 0 ≤ prod (s.drop (n + 1)) by omega)
  obtain ⟨x, hx⟩ := Int.eq_ofNat_of_zero_le (show 0 ≤ rd s (n : Int) by omega)
  obtain ⟨z, hz⟩ := Int.eq_ofNat_of_zero_le (show 0 ≤ rd t (n : Int) by omega)
  exact ⟨P, x, z, B, hs, ht, hl, hn, by rw [← hx]; exact hst, hx, hz, by omega, by omega, by omega, hP, hB⟩
section
variable {s t c d : List Int} {n P x z B : Nat}
theorem Two.ps (h : Two s t n P x z B) : prod s = ((P * x * B : Nat) : Int) := by
  rw [prod_split s n h.hn, h.sP, h.sx, h.sB]; simp only [Int.natCast_mul]
theorem Two.pt (h : Two s t n P x z B) : prod t = ((P * z * B : Nat) : Int) := by
  rw [prod_split t n (by rw [← h.hl]; exact h.hn), h.tP, h.tz, h.tB]; simp only [Int.natCast_mul]
theorem Two.pj (h : Two s t n P x z B) : prod (s.set n ((x : Int) + z)) = ((P * (x + z) * B : Nat) : Int) := by
  rw [prod_split _ n (by rw [List.length_set]; exact h.hn), List.take_set_of_le (Nat.le_refl n), List.drop_set_of_lt (Nat.lt_succ_self n), rd_set_self s n _ h.hn, h.sP, h.sB]; simp only [Int.natCast_mul, Int.natCast_add]
/-- The joined tensor's cell. -/
theorem Two.cell (h : Two s t n P x z B) {q m j : Nat} (hq : q < P) (hm : m < x + z) (hj : j < B) :
    joinC s c t d (s.set n ((x : Int) + z)) (n : Int) ((q * (x + z) + m) * B + j) = if x ≤ m then rd d (((q * z + (m - x)) * B + j : Nat) : Int) else rd c (((q * x + m) * B + j : Nat) : Int) := by
  obtain ⟨r1, r2, r3, r4, r5⟩ := rightS_true h.hs
  obtain ⟨q1, q2, q3, q4, q5⟩ := rightS_true h.ht
  obtain ⟨k1, k2, k3, k4⟩ := dec3 (P := P) (w := x + z) (q := q) (m := m) (j := j) h.hB hq hm hj
  have hw1 : ∀ y ∈ s.set n ((x : Int) + z), 1 ≤ y := fun y hy => by
    rcases List.mem_or_eq_of_mem_set hy with hy | rfl
    · exact (r3 y hy).1
    · have := h.hx; omega
  have hdig := digs_at (s.set n ((x : Int) + z)) n (((q * (x + z) + m) * B + j : Nat) : Int) hw1 (by rw [List.length_set]; exact h.hn) (by omega)
  rw [List.drop_set_of_lt (Nat.lt_succ_self n), rd_set_self s n _ h.hn, h.sB, ← Int.natCast_add, k1] at hdig
  have hdl : (digs (s.set n ((x + z : Nat) : Int)) (((q * (x + z) + m) * B + j : Nat) : Int)).1.length = s.length := by rw [digs_length, List.length_set]
  unfold joinC
  rw [← Int.natCast_add, hdig, h.sx, Int.toNat_natCast]
  by_cases c1 : x ≤ m
  · rw [if_pos (by omega), if_pos c1]
    have hp := cutPlace t n ((x + z : Nat) : Int) (-(x : Int)) (((q * (x + z) + m) * B + j : Nat) : Int) 0 (fun y hy => (q3 y hy).1) (by rw [← h.hl]; exact h.hn) (by have := h.hx; omega) (by rw [h.tB, k1]; omega) (by rw [h.tB, k1, h.tz]; omega) (by omega)
    have ha : cutA (t.set n ((x + z : Nat) : Int)) (n : Int) (-(x : Int)) (((q * (x + z) + m) * B + j : Nat) : Int) = (digs (s.set n ((x + z : Nat) : Int)) (((q * (x + z) + m) * B + j : Nat) : Int)).1.set n ((m : Int) - x) := by
      unfold cutA; rw [← h.st, hdig, Int.toNat_natCast, Int.sub_eq_add_neg]
    rw [ha, h.tB, h.tP, h.tz, k1, k2, k3] at hp
    unfold placeS
    rw [if_pos h.ht, if_pos (by rw [List.length_set, hdl, h.hl]), hp]
    simp only
    congr 1
    rw [Int.zero_mul, Int.zero_add]
    simp only [Int.natCast_add, Int.natCast_mul, Int.natCast_sub c1, Int.sub_eq_add_neg]
  · rw [if_neg (by omega), if_neg c1]
    have hp := cutPlace s n ((x + z : Nat) : Int) 0 (((q * (x + z) + m) * B + j : Nat) : Int) 0 (fun y hy => (r3 y hy).1) h.hn (by have := h.hx; omega) (by rw [h.sB, k1]; omega) (by rw [h.sB, k1, h.sx]; omega) (by omega)
    have ha : cutA (s.set n ((x + z : Nat) : Int)) (n : Int) 0 (((q * (x + z) + m) * B + j : Nat) : Int) = (digs (s.set n ((x + z : Nat) : Int)) (((q * (x + z) + m) * B + j : Nat) : Int)).1 := by
      unfold cutA; rw [Int.add_zero, Int.toNat_natCast]; exact set_self _ n (by rw [hdl]; exact h.hn)
    rw [ha, h.sB, h.sP, h.sx, k1, k2, k3] at hp
    unfold placeS
    rw [if_pos h.hs, if_pos hdl, hp]
    simp only
    congr 1
    rw [Int.zero_mul, Int.zero_add, Int.add_zero]
    simp only [Int.natCast_add, Int.natCast_mul]
theorem join_l1 (hn : n < s.length) (hsx : rd s (n : Int) = (x : Int)) {X : Nat} (hX : (x : Int) * (B : Int) = (X : Int)) (hX1 : X ≤ 100000) (hx1 : 0 < x) (hB : 0 < B) (hP : P ≤ 100000) (hc : (P : Int) * (x : Int) * (B : Int) = c.length) (h6 : c.length ≤ 600) {q : Nat} (hq : q < P) {v : List Int} :
    ∀ (e j : Nat) (acc : List Int), j + e = X → acc.length + e ≤ 1000000 →
      Ev (fun k => athanorref04_Join.l2 k s t c d (n : Int) (P : Int) (B : Int) (acc ++ (List.range' j e).map fun k : Nat => rd c ((q : Int) * (x : Int) * (B : Int) + (k : Int))) (q : Int) 0) v → Ev (fun k => athanorref04_Join.l1 k s t c d (n : Int) (P : Int) (B : Int) acc (q : Int) (j : Int)) v := by
  intro e
  induction e with
  | zero =>
    intro j acc hj _ h
    refine Ev.step (fun k => ?_) h
    simp only [athanorref04_Join.l1, List.range'_zero, List.map_nil, List.append_nil]
    rw [if_pos (by omega), if_pos (by omega), hsx, hX, w64 (x := (X : Int)) (by omega) (by omega), if_neg (by omega)]
  | succ e ih =>
    intro j acc hj hlen h
    obtain ⟨k1, k2, k3, k4⟩ := idx2 (P := (P : Int)) (x := (x : Int)) (B := (B : Int)) (q := (q : Int)) (k := (j : Int)) (by omega) (by omega) (by omega) (by omega) (by omega) (by rw [hX]; omega)
    rw [hc] at k4
    refine Ev.step (fun k => ?_) (ih (j + 1) (acc ++ [rd c ((q : Int) * (x : Int) * (B : Int) + (j : Int))]) (by omega) (by rw [List.length_append, List.length_singleton]; omega) ?_)
    · simp only [athanorref04_Join.l1]
      rw [if_pos (by omega), if_pos (by omega), hsx, hX, w64 (x := (X : Int)) (by omega) (by omega), if_pos (by omega), w64 (x := (q : Int) * (x : Int)) (by omega) (by omega), w64 (x := (q : Int) * (x : Int) * (B : Int)) (by omega) (by omega), w64 (x := (q : Int) * (x : Int) * (B : Int) + (j : Int)) (by omega) (by omega),
        if_pos (by omega), if_pos (by omega), if_pos (by omega), w64s (i := j) (n := X) (by omega) (by omega)]
    · rw [List.append_assoc]
      exact h
theorem join_l2 (hn : n < t.length) (hsx : rd t (n : Int) = (z : Int)) {X : Nat} (hX : (z : Int) * (B : Int) = (X : Int)) (hX1 : X ≤ 100000) (hx1 : 0 < z) (hB : 0 < B) (hP : P ≤ 100000) (hc : (P : Int) * (z : Int) * (B : Int) = d.length) (h6 : d.length ≤ 600) {q : Nat} (hq : q < P) {v : List Int} :
    ∀ (e j : Nat) (acc : List Int), j + e = X → acc.length + e ≤ 1000000 →
      Ev (fun k => athanorref04_Join.l0 k s t c d (n : Int) (P : Int) (B : Int) (acc ++ (List.range' j e).map fun k : Nat => rd d ((q : Int) * (z : Int) * (B : Int) + (k : Int))) ((q + 1 : Nat) : Int)) v → Ev (fun k => athanorref04_Join.l2 k s t c d (n : Int) (P : Int) (B : Int) acc (q : Int) (j : Int)) v := by
  intro e
  induction e with
  | zero =>
    intro j acc hj _ h
    refine Ev.step (fun k => ?_) h
    simp only [athanorref04_Join.l2, List.range'_zero, List.map_nil, List.append_nil]
    rw [if_pos (by omega), if_pos (by omega), hsx, hX, w64 (x := (X : Int)) (by omega) (by omega), if_neg (by omega), w64s (i := q) (n := P) (by omega) (by omega)]
  | succ e ih =>
    intro j acc hj hlen h
    obtain ⟨k1, k2, k3, k4⟩ := idx2 (P := (P : Int)) (x := (z : Int)) (B := (B : Int)) (q := (q : Int)) (k := (j : Int)) (by omega) (by omega) (by omega) (by omega) (by omega) (by rw [hX]; omega)
    rw [hc] at k4
    refine Ev.step (fun k => ?_) (ih (j + 1) (acc ++ [rd d ((q : Int) * (z : Int) * (B : Int) + (j : Int))]) (by omega) (by rw [List.length_append, List.length_singleton]; omega) ?_)
    · simp only [athanorref04_Join.l2]
      rw [if_pos (by omega), if_pos (by omega), hsx, hX, w64 (x := (X : Int)) (by omega) (by omega), if_pos (by omega), w64 (x := (q : Int) * (z : Int)) (by omega) (by omega), w64 (x := (q : Int) * (z : Int) * (B : Int)) (by omega) (by omega), w64 (x := (q : Int) * (z : Int) * (B : Int) + (j : Int)) (by omega) (by omega),
        if_pos (by omega), if_pos (by omega), if_pos (by omega), w64s (i := j) (n := X) (by omega) (by omega)]
    · rw [List.append_assoc]
      exact h
theorem join_l0 (h : Two s t n P x z B) {X Z : Nat} (hX : (x : Int) * (B : Int) = (X : Int)) (hZ : (z : Int) * (B : Int) = (Z : Int)) (hX1 : X ≤ 100000) (hZ1 : Z ≤ 100000) (hP : P ≤ 100000) (hc : (P : Int) * (x : Int) * (B : Int) = c.length) (hd : (P : Int) * (z : Int) * (B : Int) = d.length) (h6 : c.length ≤ 600) (h6' : d.length ≤ 600) :
    ∀ (e q : Nat) (acc : List Int), q + e = P → acc.length + e * (X + Z) ≤ 1000000 →
      Ev (fun k => athanorref04_Join.l0 k s t c d (n : Int) (P : Int) (B : Int) acc (q : Int)) (acc ++ (List.range' q e).flatMap fun q : Nat => ((List.range' 0 X).map fun k : Nat => rd c ((q : Int) * (x : Int) * (B : Int) + (k : Int))) ++ ((List.range' 0 Z).map fun k : Nat => rd d ((q : Int) * (z : Int) * (B : Int) + (k : Int)))) := by
  intro e
  induction e with
  | zero =>
    intro q acc hq _
    refine Ev.step (fun k => ?_) (Ev.now _)
    simp only [athanorref04_Join.l0, List.range'_zero, List.flatMap_nil, List.append_nil]
    rw [if_neg (by omega)]
  | succ e ih =>
    intro q acc hq hlen
    rw [Nat.succ_mul] at hlen
    have hh := ih (q + 1) (acc ++ (((List.range' 0 X).map fun k : Nat => rd c ((q : Int) * (x : Int) * (B : Int) + (k : Int))) ++ ((List.range' 0 Z).map fun k : Nat => rd d ((q : Int) * (z : Int) * (B : Int) + (k : Int))))) (by omega) (by simp only [List.length_append, List.length_map, List.length_range']; omega)
    rw [List.append_assoc] at hh
    have h2 := join_l2 (s := s) (t := t) (c := c) (d := d) (n := n) (P := P) (B := B) (by rw [← h.hl]; exact h.hn) h.tz hZ hZ1 h.hz h.hB hP hd h6' (by omega : q < P) Z 0 (acc ++ (List.range' 0 X).map fun k : Nat => rd c ((q : Int) * (x : Int) * (B : Int) + (k : Int))) (by omega) (by simp only [List.length_append, List.length_map, List.length_range']; omega) (by rw [List.append_assoc]; exact hh)
    have h1 := join_l1 (s := s) (t := t) (c := c) (d := d) (n := n) (P := P) (B := B) h.hn h.sx hX hX1 h.hx h.hB hP hc h6 (by omega : q < P) X 0 acc (by omega) (by omega) h2
    refine Ev.step (fun k => ?_) h1
    simp only [athanorref04_Join.l0]
    rw [if_pos (by omega)]
    rfl
theorem Two.small (h : Two s t n P x z B) (hc : (P * x * B : Nat) ≤ 600) (hd : (P * z * B : Nat) ≤ 600) (hP : 0 < P) : x * B ≤ 600 ∧ z * B ≤ 600 ∧ P ≤ 600 ∧ B ≤ 600 := by
  have h1 : 1 * (x * B) ≤ P * (x * B) := Nat.mul_le_mul_right _ hP
  have h2 : 1 * (z * B) ≤ P * (z * B) := Nat.mul_le_mul_right _ hP
  have h3 : P * 1 ≤ P * (x * B) := Nat.mul_le_mul_left _ (Nat.mul_pos h.hx h.hB)
  have h4 : 1 * B ≤ x * B := Nat.mul_le_mul_right _ h.hx
  rw [Nat.one_mul, ← Nat.mul_assoc] at h1
  rw [Nat.one_mul, ← Nat.mul_assoc] at h2
  rw [Nat.mul_one, ← Nat.mul_assoc] at h3
  rw [Nat.one_mul] at h4
  omega
theorem refJoin_ev (h : Two s t n P x z B) (hP : 0 < P) (hc : prod s = c.length) (hd : prod t = d.length) (h6 : c.length ≤ 600) (h6' : d.length ≤ 600) :
    Ev (fun k => athanorref04_Join.f k s t c d (n : Int)) ((List.range (P * (x + z) * B)).map (joinC s c t d (s.set n ((x : Int) + z)) (n : Int))) := by
  have hc' := hc; have hd' := hd
  rw [h.ps] at hc'; rw [h.pt] at hd'
  obtain ⟨s1, s2, s3, s4⟩ := h.small (by omega) (by omega) hP
  unfold athanorref04_Join.f
  refine Ev.bind (parts_ev s n h.hs h.hn) ?_
  simp only
  rw [h.sP, h.sB]
  have ePc : (P : Int) * (x : Int) * (B : Int) = c.length := by rw [← hc']; simp only [Int.natCast_mul]
  have ePd : (P : Int) * (z : Int) * (B : Int) = d.length := by rw [← hd']; simp only [Int.natCast_mul]
  have hm := join_l0 h (X := x * B) (Z := z * B) (by simp only [Int.natCast_mul]) (by simp only [Int.natCast_mul]) (by omega) (by omega) (by omega) ePc ePd h6 h6' P 0 [] (by omega) (by
    have e1 : P * (x * B + z * B) = P * x * B + P * z * B := by rw [Nat.mul_add, Nat.mul_assoc, Nat.mul_assoc]
    have e2 : ((P * x * B : Nat) : Int) = c.length := hc'
    have e3 : ((P * z * B : Nat) : Int) = d.length := hd'
    rw [e1]; simp only [List.length_nil]; omega)
  rw [List.nil_append] at hm
  rw [range_mul, range_mul']
  have he : ((List.range P).flatMap fun i => (List.range (x + z)).flatMap fun j => (List.range B).map fun j_1 => joinC s c t d (s.set n ((x : Int) + z)) (n : Int) ((i * (x + z) + j) * B + j_1)) = (List.range' 0 P).flatMap fun q : Nat => ((List.range' 0 (x * B)).map fun k : Nat => rd c ((q : Int) * (x : Int) * (B : Int) + (k : Int))) ++ ((List.range' 0 (z * B)).map fun k : Nat => rd d ((q : Int) * (z : Int) * (B : Int) + (k : Int))) := by
    simp only [← List.range_eq_range']
    refine flatMap_congr' _ (fun q hq => ?_)
    rw [List.mem_range] at hq
    rw [List.range_add, List.flatMap_append, List.flatMap_map, range_mul, range_mul]
    congr 1
    · refine flatMap_congr' _ (fun m hm => List.map_congr_left (fun j hj => ?_))
      rw [List.mem_range] at hm hj
      rw [h.cell hq (by omega) hj, if_neg (by omega)]
      congr 1
      simp only [Int.natCast_add, Int.natCast_mul, Int.add_mul, Int.add_assoc]
    · refine flatMap_congr' _ (fun m hm => List.map_congr_left (fun j hj => ?_))
      rw [List.mem_range] at hm hj
      rw [h.cell hq (by omega) hj, if_pos (by omega), show x + m - x = m by omega]
      congr 1
      simp only [Int.natCast_add, Int.natCast_mul, Int.add_mul, Int.add_assoc]
  rw [he]
  exact hm
/-- The first part of what was joined. -/
theorem cut_first (h : Two s t n P x z B) (hP : 0 < P) (hrJ : rightS (s.set n ((x : Int) + z)) = true) (hc : prod s = c.length) (h6 : c.length ≤ 600) (hN : P * (x + z) * B ≤ 2000) :
    CutW.cutF (s.set n ((x : Int) + z)) ((List.range (P * (x + z) * B)).map (joinC s c t d (s.set n ((x : Int) + z)) (n : Int))) (n : Int) 0 (x : Int) = some (s, c, 0) := by
  obtain ⟨r1, r2, r3, r4, r5⟩ := rightS_true h.hs
  obtain ⟨j1, j2, j3, j4, j5⟩ := rightS_true hrJ
  have hsx := h.sx
  have hx := (r3 _ (rd_mem (l := s) (i := (n : Int)) (by omega) (by have := h.hn; omega)))
  rw [hsx] at hx
  have hlen : (s.set n ((x : Int) + z)).length = s.length := by rw [List.length_set]
  have hrd : rd (s.set n ((x : Int) + z)) (n : Int) = (x : Int) + z := rd_set_self s n _ h.hn
  have hss : (s.set n ((x : Int) + z)).set n ((x : Int) - 0) = s := by rw [List.set_set, Int.sub_zero, ← hsx]; exact set_self s n h.hn
  have hcut : cutS (s.set n ((x : Int) + z)) (n : Int) 0 (x : Int) = (s, 0) := by
    unfold cutS
    rw [if_pos hrJ, if_pos ⟨by omega, by rw [hlen]; have := h.hn; omega, by omega, by rw [hrd]; omega, by have := h.hx; omega⟩, Int.toNat_natCast, hss]
  have hRT : rightT (s.set n ((x : Int) + z)) ((List.range (P * (x + z) * B)).map (joinC s c t d (s.set n ((x : Int) + z)) (n : Int))) = true := by
    unfold rightT
    rw [Bool.and_eq_true, decide_eq_true_eq, h.pj, List.length_map, List.length_range]
    exact ⟨hrJ, rfl⟩
  unfold CutW.cutF
  rw [if_pos ⟨by rw [hlen]; omega, by rw [List.length_map, List.length_range]; exact hN, by have := h.hn; omega, by omega, by omega⟩]
  congr 1
  unfold cutT
  rw [if_pos hRT, hcut, if_pos rfl]
  simp only [Prod.mk.injEq, true_and, and_true]
  rw [h.ps] at hc ⊢
  rw [Int.toNat_natCast]
  refine ext_rd (by rw [List.length_map, List.length_range]; omega) (fun K hK => ?_)
  rw [List.length_map, List.length_range] at hK
  rw [rd_range _ _ hK]
  obtain ⟨q, m, j, hq, hm, hj, rfl⟩ := dec3_of h.hB h.hx hK
  obtain ⟨k1, k2, k3, k4⟩ := dec3 (P := P) (w := x) (q := q) (m := m) (j := j) h.hB hq hm hj
  have hp := cutPlace (s.set n ((x : Int) + z)) n ((x : Int) - 0) 0 (((q * x + m) * B + j : Nat) : Int) 0 (fun y hy => (j3 y hy).1) (by rw [hlen]; exact h.hn) (by omega)
    (by rw [List.drop_set_of_lt (Nat.lt_succ_self n), h.sB, Int.sub_zero, k1]; omega) (by rw [List.drop_set_of_lt (Nat.lt_succ_self n), h.sB, Int.sub_zero, k1, hrd]; omega) (by omega)
  rw [hss, List.drop_set_of_lt (Nat.lt_succ_self n), List.take_set_of_le (Nat.le_refl n), h.sB, h.sP, hrd, Int.sub_zero, k1, k2, k3] at hp
  have hcl : (cutA s (n : Int) 0 (((q * x + m) * B + j : Nat) : Int)).length = (s.set n ((x : Int) + z)).length := by unfold cutA; rw [List.length_set, digs_length, hlen]
  unfold cutC placeS
  rw [if_pos hrJ, if_pos hcl, hp]
  simp only
  rw [show ((0 * (P : Int) + (q : Int)) * ((x : Int) + z) + ((m : Int) + 0)) * (B : Int) + (j : Int) = (((q * (x + z) + m) * B + j : Nat) : Int) by simp only [Int.natCast_add, Int.natCast_mul]; rw [Int.zero_mul, Int.zero_add, Int.add_zero]]
  obtain ⟨_, _, _, k5⟩ := dec3 (P := P) (w := x + z) (q := q) (m := m) (j := j) h.hB hq (by omega) hj
  rw [rd_range _ _ k5, h.cell hq (by omega) hj, if_neg (by omega)]
/-- The second part. -/
theorem cut_second (h : Two s t n P x z B) (hP : 0 < P) (hrJ : rightS (s.set n ((x : Int) + z)) = true) (hd : prod t = d.length) (h6 : d.length ≤ 600) (hN : P * (x + z) * B ≤ 2000) :
    CutW.cutF (s.set n ((x : Int) + z)) ((List.range (P * (x + z) * B)).map (joinC s c t d (s.set n ((x : Int) + z)) (n : Int))) (n : Int) (x : Int) ((x : Int) + z) = some (t, d, 0) := by
  obtain ⟨r1, r2, r3, r4, r5⟩ := rightS_true h.hs
  obtain ⟨j1, j2, j3, j4, j5⟩ := rightS_true hrJ
  have hsx := h.sx
  have htz := h.tz
  have hx := (r3 _ (rd_mem (l := s) (i := (n : Int)) (by omega) (by have := h.hn; omega)))
  rw [hsx] at hx
  have hlen : (s.set n ((x : Int) + z)).length = s.length := by rw [List.length_set]
  have hrd : rd (s.set n ((x : Int) + z)) (n : Int) = (x : Int) + z := rd_set_self s n _ h.hn
  have hj := (j3 _ (rd_mem (l := s.set n ((x : Int) + z)) (i := (n : Int)) (by omega) (by rw [hlen]; have := h.hn; omega)))
  rw [hrd] at hj
  have hss : (s.set n ((x : Int) + z)).set n ((x : Int) + z - x) = t := by rw [h.st, List.set_set, show (x : Int) + z - x = z by omega, ← htz]; exact set_self t n (by rw [← h.hl]; exact h.hn)
  have hcut : cutS (s.set n ((x : Int) + z)) (n : Int) (x : Int) ((x : Int) + z) = (t, 0) := by
    unfold cutS
    rw [if_pos hrJ, if_pos ⟨by omega, by rw [hlen]; have := h.hn; omega, by omega, by rw [hrd]; omega, by have := h.hz; omega⟩, Int.toNat_natCast, hss]
  have hRT : rightT (s.set n ((x : Int) + z)) ((List.range (P * (x + z) * B)).map (joinC s c t d (s.set n ((x : Int) + z)) (n : Int))) = true := by
    unfold rightT
    rw [Bool.and_eq_true, decide_eq_true_eq, h.pj, List.length_map, List.length_range]
    exact ⟨hrJ, rfl⟩
  unfold CutW.cutF
  rw [if_pos ⟨by rw [hlen]; omega, by rw [List.length_map, List.length_range]; exact hN, by have := h.hn; omega, by omega, by omega⟩]
  congr 1
  unfold cutT
  rw [if_pos hRT, hcut, if_pos rfl]
  simp only [Prod.mk.injEq, true_and, and_true]
  rw [h.pt] at hd ⊢
  rw [Int.toNat_natCast]
  refine ext_rd (by rw [List.length_map, List.length_range]; omega) (fun K hK => ?_)
  rw [List.length_map, List.length_range] at hK
  rw [rd_range _ _ hK]
  obtain ⟨q, m, j, hq, hm, hj, rfl⟩ := dec3_of h.hB h.hz hK
  obtain ⟨k1, k2, k3, k4⟩ := dec3 (P := P) (w := z) (q := q) (m := m) (j := j) h.hB hq hm hj
  have hp := cutPlace (s.set n ((x : Int) + z)) n ((x : Int) + z - x) (x : Int) (((q * z + m) * B + j : Nat) : Int) 0 (fun y hy => (j3 y hy).1) (by rw [hlen]; exact h.hn) (by have := h.hz; omega)
    (by rw [List.drop_set_of_lt (Nat.lt_succ_self n), h.sB, show (x : Int) + z - x = z by omega, k1]; omega) (by rw [List.drop_set_of_lt (Nat.lt_succ_self n), h.sB, show (x : Int) + z - x = z by omega, k1, hrd]; omega) (by omega)
  rw [hss, List.drop_set_of_lt (Nat.lt_succ_self n), List.take_set_of_le (Nat.le_refl n), h.sB, h.sP, hrd, show (x : Int) + z - x = z by omega, k1, k2, k3] at hp
  have hcl : (cutA t (n : Int) (x : Int) (((q * z + m) * B + j : Nat) : Int)).length = (s.set n ((x : Int) + z)).length := by unfold cutA; rw [List.length_set, digs_length, hlen, h.hl]
  unfold cutC placeS
  rw [if_pos hrJ, if_pos hcl, hp]
  simp only
  rw [show ((0 * (P : Int) + (q : Int)) * ((x : Int) + z) + ((m : Int) + (x : Int))) * (B : Int) + (j : Int) = (((q * (x + z) + (x + m)) * B + j : Nat) : Int) by simp only [Int.natCast_add, Int.natCast_mul]; rw [Int.zero_mul, Int.zero_add, Int.add_comm (m : Int)]]
  obtain ⟨_, _, _, k5⟩ := dec3 (P := P) (w := x + z) (q := q) (m := x + m) (j := j) h.hB hq (by omega) hj
  rw [rd_range _ _ k5, h.cell hq (by omega) hj, if_pos (by omega), show x + m - x = m by omega]
end
theorem TensorJoins : athanorlaw04_TensorJoins.Pure := by
  intro w hw
  obtain ⟨⟨s, c⟩, ⟨t, d⟩, side, a, b⟩ := w
  simp only
  refine Ev.rounds (g := fun k => athanorlaw04_TensorJoins.f k s c t d side a b) ?_
  unfold athanorlaw04_TensorJoins.f
  simp only [small_f, Option.bind_some, decide_eq_true_eq]
  have big : Ev (fun k => athanorlaw04_TensorJoins.j0 k true s c t d side a b) true := Ev.step (fun k => by simp only [athanorlaw04_TensorJoins.j0, if_true]) aw
  by_cases h : s.length ≤ 50 ∧ c.length ≤ 600
  · simp only [h, and_self, if_true]
    by_cases h' : t.length ≤ 50 ∧ d.length ≤ 600
    · rw [decide_eq_true h']
      obtain ⟨h1, h2⟩ := h
      obtain ⟨h3, h4⟩ := h'
      refine Ev.step (f := fun k => (athanorlaw04_right.f k s c).bind fun t332 => (if t332 = true then ((athanorlaw04_right.f k t d).bind fun t333 => (athanorlaw04_TensorJoins.j1 k (joinT s c t d side).2.2 (!t333) s c t d side a b (joinT s c t d side).1 (joinT s c t d side).2.1)) else (athanorlaw04_TensorJoins.j1 k (joinT s c t d side).2.2 true s c t d side a b (joinT s c t d side).1 (joinT s c t d side).2.1))) (fun k => ?_) ?_
      · simp only [athanorlaw04_TensorJoins.j0, Bool.not_true, Bool.false_eq_true, if_false]
        rw [show tensor_Join_fix_F.f s c t d side = some (joinT s c t d side) by unfold tensor_Join_fix_F.f JoinW.joinF; rw [if_pos ⟨⟨h1, h2⟩, h3, h4⟩]]
        rfl
      have no : (rightT s c && rightT t d) = false → Ev (fun k => athanorlaw04_TensorJoins.j1 k (joinT s c t d side).2.2 true s c t d side a b (joinT s c t d side).1 (joinT s c t d side).2.1) true := fun e => by
        have e1 : joinT s c t d side = ([], [], 20) := by unfold joinT; rw [if_neg (by rw [e]; simp)]
        rw [e1]
        exact Ev.step (fun k => by simp only [athanorlaw04_TensorJoins.j1, if_true, List.length_nil]; rfl) aw
      refine Ev.bind (rightL_ev s c) ?_
      cases e : rightT s c with
      | false =>
        simp only [Bool.false_eq_true, if_false]
        exact no (by rw [e]; rfl)
      | true =>
        simp only [if_true]
        refine Ev.bind (rightL_ev t d) ?_
        cases e' : rightT t d with
        | false => exact no (by rw [e, e']; rfl)
        | true =>
          simp only [Bool.not_true]
          by_cases f : (joinS s t side).2 = 0
          · have e1 : joinT s c t d side = ((joinS s t side).1, (List.range (prod (joinS s t side).1).toNat).map (joinC s c t d (joinS s t side).1 side), 0) := by unfold joinT; rw [if_pos (by rw [e, e']; rfl), if_pos f]
            obtain ⟨hrS, hrT, hlT, n, rfl, hn, hrJ, hst, hs'⟩ := joinS_true f
            have hc := (rightT_true e).2
            have hd := (rightT_true e').2
            obtain ⟨P, x, z, B, two⟩ := Two.make hrS hrT hlT hn hst
            rw [two.sx, two.tz] at hs' hrJ
            have hpj := two.pj
            have hP : 0 < P := by
              have := (rightS_true hrS).2.2.2.1
              rw [two.ps] at this
              rcases Nat.eq_zero_or_pos P with hz | hz
              · rw [hz] at this; simp at this
              · exact hz
            have hc' := hc; have hd' := hd
            rw [two.ps] at hc'; rw [two.pt] at hd'
            have hN : P * (x + z) * B ≤ 2000 := by
              have : P * (x + z) * B = P * x * B + P * z * B := by rw [Nat.mul_add, Nat.add_mul]
              omega
            rw [e1, hs', hpj, Int.toNat_natCast]
            have hjl : (s.set n ((x : Int) + z)).length = s.length := by rw [List.length_set]
            have hrd : rd (s.set n ((x : Int) + z)) (n : Int) = (x : Int) + z := rd_set_self s n _ hn
            refine Ev.step (fun k => by simp only [athanorlaw04_TensorJoins.j1, Bool.false_eq_true, if_false]; rfl) (Ev.bind (join_ev s t (n : Int) (by omega) (by omega)) ?_)
            · simp only [f, if_true, hs', hjl, bne_self_eq_false, if_neg (show ¬ (n : Int) < 0 by omega), if_neg (show ¬ (n : Int) ≥ (s.length : Int) by omega), if_neg (show ¬ (n : Int) ≥ (t.length : Int) by omega)]
              refine Ev.step (f := fun k => (shape_Shape_Equal.f k (s.set n ((x : Int) + z)) (s.set n ((x : Int) + z))).bind fun t359 => (if t359 = true then ((athanorlaw04_cells.f k s c).bind fun t360 => ((athanorlaw04_cells.f k t d).bind fun t363 => ((athanorref04_Join.f k s t t360 t363 (n : Int)).bind fun t366 => ((athanorlaw04_same.f k (s.set n ((x : Int) + z)) ((List.range (P * (x + z) * B)).map (joinC s c t d (s.set n ((x : Int) + z)) (n : Int))) t366).bind fun t369 => (if t369 = true then ((tensor_Equal_fix_F.f k s c s c).bind fun t370 => (if t370 = true then ((tensor_Equal_fix_F.f k t d t d).bind fun t371 => (if t371 = true then ((athanorlaw04_awake.f k).bind fun t372 => (some t372)) else (none))) else (none))) else (none)))))) else (none))) (fun k => ?_) ?_
              · simp only [athanorlaw04_TensorJoins.j2, Bool.false_eq_true, if_false]
                rw [if_pos (by omega), if_pos (by omega), two.sx, show tensor_Grid_fix_F_Cut.f (s.set n ((x : Int) + z)) ((List.range (P * (x + z) * B)).map (joinC s c t d (s.set n ((x : Int) + z)) (n : Int))) (n : Int) 0 (x : Int) = some (s, c, 0) from cut_first two hP hrJ hc h2 hN]
                simp only [Option.bind_some]
                rw [if_pos (by rw [hjl]; omega), hrd, show tensor_Grid_fix_F_Cut.f (s.set n ((x : Int) + z)) ((List.range (P * (x + z) * B)).map (joinC s c t d (s.set n ((x : Int) + z)) (n : Int))) (n : Int) (x : Int) ((x : Int) + z) = some (t, d, 0) from cut_second two hP hrJ hd h4 hN]
                simp only [Option.bind_some, if_true]
              · refine Ev.bind (equal_ev _ _ (by rw [hjl]; omega)) ?_
                simp only [decide_true, if_true]
                refine Ev.bind (cells_ev s c (by omega)) (Ev.bind (cells_ev t d (by omega)) (Ev.bind (refJoin_ev two hP hc hd h2 h4) (Ev.bind (same4_ev _ _ (by rw [List.length_map, List.length_range]; omega)) ?_)))
                simp only [if_true]
                refine Ev.bind (equalT_ev s c s c (by omega) (by omega)) ?_
                simp only [and_self, decide_true, if_true]
                refine Ev.bind (equalT_ev t d t d (by omega) (by omega)) ?_
                simp only [and_self, decide_true, if_true]
                exact aw
          · have e1 : joinT s c t d side = ([], [], (joinS s t side).2) := by unfold joinT; rw [if_pos (by rw [e, e']; rfl), if_neg f]
            rw [e1]
            refine Ev.step (fun k => by simp only [athanorlaw04_TensorJoins.j1, Bool.false_eq_true, if_false]; rfl) (Ev.bind (join_ev s t side (by omega) (by omega)) ?_)
            simp only [f, if_false, if_true, List.length_nil]
            exact aw
    · rw [decide_eq_false h']; exact big
  · simp only [h, if_false]; exact big
end Go.Proofs.Ytmekcfmhaflghaa.LawsJoinsT
