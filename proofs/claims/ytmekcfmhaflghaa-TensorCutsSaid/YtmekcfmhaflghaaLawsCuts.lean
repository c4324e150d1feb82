/- Law TensorCuts of package tensor, on the printed functions. Conditions: those of the printed statement (numbers of 64 bits). -/
import Derived.Test.YtmekcfmhaflghaaPCutx7
import Derived.Test.YtmekcfmhaflghaaAidCut
set_option linter.unusedSimpArgs false
set_option linter.unusedVariables false
namespace Go.Proofs.Ytmekcfmhaflghaa.LawsCuts
open Go.RowKit Go.Proofs.Ytmekcfmhaflghaa.PCut Go.Proofs.Ytmekcfmhaflghaa.Aid Go.Proofs.Ytmekcfmhaflghaa.AidList Go.Proofs.Ytmekcfmhaflghaa.AidShape Go.Proofs.Ytmekcfmhaflghaa.AidTensor Go.Proofs.Ytmekcfmhaflghaa.AidDigs Go.Proofs.Ytmekcfmhaflghaa.AidCut Go.Proofs.YtmekcfmhaflghaaW.PrintWords Go.Proofs.YtmekcfmhaflghaaW.PrintLast Go.Proofs.YtmekcfmhaflghaaW.PrintMore
theorem emod_mul (Q y P : Int) (hy : 1 ≤ y) (hP : 1 ≤ P) : Q % (y * P) = (Q / P % y) * P + Q % P := by
  have e1 := Int.mul_ediv_add_emod Q P
  have e2 := Int.mul_ediv_add_emod (Q / P) y
  have b1 := Int.emod_nonneg Q (show P ≠ 0 by omega)
  have b2 := Int.emod_lt_of_pos Q (show 0 < P by omega)
  have b3 := Int.emod_nonneg (Q / P) (show y ≠ 0 by omega)
  have b4 := Int.emod_lt_of_pos (Q / P) (show 0 < y by omega)
  generalize Q / P = D at e1 e2 b3 b4 ⊢
  generalize Q % P = r at e1 b1 b2 ⊢
  generalize D % y = d at e2 b3 b4 ⊢
  generalize D / y = z at e2 ⊢
  have h0 : 0 ≤ d * P := Int.mul_nonneg b3 (by omega)
  have h1 : d * P ≤ (y - 1) * P := Int.mul_le_mul_of_nonneg_right (by omega) (by omega)
  have h2 : (y - 1) * P = y * P - P := by rw [Int.sub_mul, Int.one_mul]
  have h3 : Q = (d * P + r) + (y * P) * z := by
    rw [← e1, ← e2, Int.mul_add, Int.mul_comm P d, show P * (y * z) = y * P * z by rw [Int.mul_left_comm, Int.mul_assoc]]; omega
  rw [h3, Int.add_mul_emod_self_left, Int.emod_eq_of_lt (by omega) (by omega)]
/-- The number of a place of the part, in the whole. -/
theorem cutPlace : ∀ (s : List Int) (n : Nat) (w a k acc : Int), (∀ y ∈ s, 1 ≤ y) → n < s.length → 1 ≤ w → 0 ≤ a → a + w ≤ rd s (n : Int) → 0 ≤ k →
    placeFrom acc s (cutA (s.set n w) (n : Int) a k) = (((acc * prod (s.take n) + k / prod (s.drop (n + 1)) / w % prod (s.take n)) * rd s (n : Int) + (k / prod (s.drop (n + 1)) % w + a)) * prod (s.drop (n + 1)) + k % prod (s.drop (n + 1)), 0)
  | [], n, w, a, k, acc, _, h, _, _, _, _ => by simp at h
  | x :: u, 0, w, a, k, acc, hs, h, hw, ha, hx, hk => by
    have hu : ∀ y ∈ u, 1 ≤ y := fun y hy => hs y (List.mem_cons_of_mem _ hy)
    have hB := prod_ge hu
    have hl := digs_left u k hu hk
    have hp := digs_place u k
    have b1 := Int.emod_nonneg (k / prod u) (show w ≠ 0 by omega)
    have b2 := Int.emod_lt_of_pos (k / prod u) (show 0 < w by omega)
    rw [show (((0 : Nat) : Int)) = 0 from rfl] at hx ⊢
    simp only [cutA, List.set_cons_zero, digs, Int.toNat_zero, List.take_zero, List.drop_succ_cons, List.drop_zero, prod, Int.mul_one, Int.emod_one, Int.add_zero]
    rw [show rd (x :: u) 0 = x from rfl] at hx ⊢
    rw [hl, show rd ((k / prod u % w) :: (digs u k).1) 0 = k / prod u % w from rfl]
    unfold placeFrom
    rw [if_neg (by omega), hp _ hu, hl]
    have e1 := Int.mul_ediv_add_emod k (prod u)
    rw [Int.mul_comm (prod u)] at e1
    rw [show k - k / prod u * prod u = k % prod u by omega]
  | y :: u, n + 1, w, a, k, acc, hs, h, hw, ha, hx, hk => by
    have hu : ∀ z ∈ u, 1 ≤ z := fun z hz => hs z (List.mem_cons_of_mem _ hz)
    have hy := hs y List.mem_cons_self
    rw [rd_cons_succ] at hx ⊢
    have hn : n < u.length := by simpa using h
    have hset : ∀ z ∈ u.set n w, 1 ≤ z := fun z hz => by
      rcases List.mem_or_eq_of_mem_set hz with hz | rfl
      · exact hu z hz
      · exact hw
    have hl := digs_left (u.set n w) k hset hk
    have hprod : prod (u.set n w) = prod (u.drop (n + 1)) * w * prod (u.take n) := by
      clear hx hl hset hs h
      induction u generalizing n with
      | nil => simp at hn
      | cons z v ih =>
        cases n with
        | zero => simp only [List.set_cons_zero, prod, List.drop_succ_cons, List.drop_zero, List.take_zero, Int.mul_one]; rw [Int.mul_comm]
        | succ n =>
          simp only [List.set_cons_succ, prod, List.drop_succ_cons, List.take_succ_cons]
          rw [ih n (fun q hq => hu q (List.mem_cons_of_mem _ hq)) (by simpa using hn), Int.mul_left_comm]
    have hB : 1 ≤ prod (u.drop (n + 1)) := prod_ge fun z hz => hu z (List.mem_of_mem_drop hz)
    have hP : 1 ≤ prod (u.take n) := prod_ge fun z hz => hu z (List.mem_of_mem_take hz)
    have hD : (digs (u.set n w) k).2 = k / prod (u.drop (n + 1)) / w / prod (u.take n) := by
      rw [hl, hprod, ← Int.ediv_ediv_of_nonneg (Int.mul_nonneg (by omega) (by omega)), ← Int.ediv_ediv_of_nonneg (by omega)]
    have b1 := Int.emod_nonneg (digs (u.set n w) k).2 (show y ≠ 0 by omega)
    have b2 := Int.emod_lt_of_pos (digs (u.set n w) k).2 (show 0 < y by omega)
    have hc : cutA ((y :: u).set (n + 1) w) ((n + 1 : Nat) : Int) a k = ((digs (u.set n w) k).2 % y) :: cutA (u.set n w) (n : Int) a k := by
      simp only [cutA, List.set_cons_succ, digs, Int.toNat_natCast, List.set_cons_succ]
      rw [rd_cons_succ]
    rw [hc]
    unfold placeFrom
    rw [if_neg (by omega), cutPlace u n w a k _ hu hn hw ha hx hk, hD]
    simp only [List.take_succ_cons, List.drop_succ_cons, prod]
    rw [emod_mul (k / prod (u.drop (n + 1)) / w) y (prod (u.take n)) hy hP]
    congr 5
    rw [Int.add_mul, Int.mul_assoc]; omega
theorem prod_split : ∀ (s : List Int) (n : Nat), n < s.length → prod s = prod (s.take n) * rd s (n : Int) * prod (s.drop (n + 1))
  | [], n, h => by simp at h
  | x :: u, 0, h => by simp only [List.take_zero, List.drop_succ_cons, List.drop_zero, prod, Int.one_mul]; rfl
  | x :: u, n + 1, h => by
    simp only [List.take_succ_cons, List.drop_succ_cons, prod]
    rw [rd_cons_succ, prod_split u n (by simpa using h)]
    simp only [Int.mul_assoc]
theorem range_mul {α : Type} (A B : Nat) (g : Nat → α) : (List.range (A * B)).map g = (List.range A).flatMap fun i => (List.range B).map fun j => g (i * B + j) := by
  induction A with
  | zero => simp
  | succ A ih =>
    rw [Nat.succ_mul, List.range_add, List.map_append, ih, List.range_succ, List.flatMap_append]
    simp
theorem range_mul' {α : Type} (A B : Nat) (g : Nat → List α) : (List.range (A * B)).flatMap g = (List.range A).flatMap fun i => (List.range B).flatMap fun j => g (i * B + j) := by
  induction A with
  | zero => simp
  | succ A ih =>
    rw [Nat.succ_mul, List.range_add, List.flatMap_append, ih, List.range_succ, List.flatMap_append]
    simp [List.flatMap_map]
/-- The reference's index, within its bounds. -/
theorem idx {P x B q e j : Int} (hx : 1 ≤ x) (hB : 1 ≤ B) (hq0 : 0 ≤ q) (hq : q < P) (he0 : 0 ≤ e) (he : e < x) (hj0 : 0 ≤ j) (hj : j < B) :
    0 ≤ q * x ∧ 0 ≤ (q * x + e) * B ∧ q * x + e < P * x ∧ (q * x + e) * B + j < P * x * B ∧ q * x + e ≤ (q * x + e) * B := by
  have h1 : 0 ≤ q * x := Int.mul_nonneg hq0 (by omega)
  have h2 : (q + 1) * x ≤ P * x := Int.mul_le_mul_of_nonneg_right (by omega) (by omega)
  rw [Int.add_mul, Int.one_mul] at h2
  have h3 : 0 ≤ (q * x + e) * B := Int.mul_nonneg (by omega) (by omega)
  have h4 : (q * x + e + 1) * B ≤ P * x * B := Int.mul_le_mul_of_nonneg_right (by omega) (by omega)
  rw [Int.add_mul, Int.one_mul] at h4
  have h5 : (q * x + e) * 1 ≤ (q * x + e) * B := Int.mul_le_mul_of_nonneg_left (by omega) (by omega)
  rw [Int.mul_one] at h5
  exact ⟨h1, h3, by omega, by omega, h5⟩
/-- The cell that the reference takes at q, m, j. -/
def refG (s c : List Int) (n : Nat) (a : Int) (B : Nat) (q m j : Nat) : Int := rd c (((q : Int) * rd s (n : Int) + (a + (m : Int))) * (B : Int) + (j : Int))
section
variable {s c : List Int} {n P B w : Nat} {a b : Int}
theorem cut_l2 (hn : n < s.length) (hx : 1 ≤ rd s (n : Int)) (ha : 0 ≤ a) (hw : b = a + w) (hb : b ≤ rd s (n : Int)) (hb2 : b ≤ 1024) (hB : B ≤ 100000) (hc : (P : Int) * rd s (n : Int) * B = c.length) (h6 : c.length ≤ 600) {q m : Nat} (hq : q < P) (hm : m < w) {v : List Int} :
    ∀ (d j : Nat) (acc : List Int), j + d = B → acc.length + d ≤ 1000000 →
      Ev (fun k => athanorref04_Cut.l1 k s c (n : Int) a b (P : Int) (B : Int) (acc ++ (List.range' j d).map (refG s c n a B q m)) (q : Int) (a + ((m + 1 : Nat) : Int))) v →
      Ev (fun k => athanorref04_Cut.l2 k s c (n : Int) a b (P : Int) (B : Int) acc (q : Int) (a + (m : Int)) (j : Int)) v := by
  intro d
  induction d with
  | zero =>
    intro j acc hj _ h
    refine Ev.step (fun k => ?_) h
    simp only [athanorref04_Cut.l2, List.range'_zero, List.map_nil, List.append_nil]
    rw [if_neg (by omega), w64 (x := a + (m : Int) + 1) (by omega) (by omega), show a + (m : Int) + 1 = a + ((m + 1 : Nat) : Int) by omega]
  | succ d ih =>
    intro j acc hj hlen h
    obtain ⟨k1, k2, k3, k4, k5⟩ := idx (P := (P : Int)) (x := rd s (n : Int)) (B := (B : Int)) (q := (q : Int)) (e := a + (m : Int)) (j := (j : Int)) hx (by omega) (by omega) (by omega) (by omega) (by omega) (by omega) (by omega)
    rw [hc] at k4
    refine Ev.step (fun k => ?_) (ih (j + 1) (acc ++ [refG s c n a B q m j]) (by omega) (by rw [List.length_append, List.length_singleton]; omega) ?_)
    · simp only [athanorref04_Cut.l2]
      rw [if_pos (by omega), if_pos (by omega), if_pos (by omega), w64 (x := (q : Int) * rd s (n : Int)) (by omega) (by omega), w64 (x := (q : Int) * rd s (n : Int) + (a + (m : Int))) (by omega) (by omega), w64 (x := ((q : Int) * rd s (n : Int) + (a + (m : Int))) * (B : Int)) (by omega) (by omega), w64 (x := ((q : Int) * rd s (n : Int) + (a + (m : Int))) * (B : Int) + (j : Int)) (by omega) (by omega),
        if_pos (by omega), if_pos (by omega), if_pos (by omega), w64s (i := j) (n := B) (by omega) (by omega)]
      rfl
    · rw [List.append_assoc]
      exact h
theorem cut_l1 (hn : n < s.length) (hx : 1 ≤ rd s (n : Int)) (ha : 0 ≤ a) (hw : b = a + w) (hb : b ≤ rd s (n : Int)) (hb2 : b ≤ 1024) (hB : B ≤ 100000) (hP : P ≤ 100000) (hc : (P : Int) * rd s (n : Int) * B = c.length) (h6 : c.length ≤ 600) {q : Nat} (hq : q < P) {v : List Int} :
    ∀ (d m : Nat) (acc : List Int), m + d = w → acc.length + d * B ≤ 1000000 →
      Ev (fun k => athanorref04_Cut.l0 k s c (n : Int) a b (P : Int) (B : Int) (acc ++ (List.range' m d).flatMap fun m => (List.range' 0 B).map (refG s c n a B q m)) ((q + 1 : Nat) : Int)) v →
      Ev (fun k => athanorref04_Cut.l1 k s c (n : Int) a b (P : Int) (B : Int) acc (q : Int) (a + (m : Int))) v := by
  intro d
  induction d with
  | zero =>
    intro m acc hm _ h
    refine Ev.step (fun k => ?_) h
    simp only [athanorref04_Cut.l1, List.range'_zero, List.flatMap_nil, List.append_nil]
    rw [if_neg (by omega), w64s (i := q) (n := P) (by omega) (by omega)]
  | succ d ih =>
    intro m acc hm hlen h
    rw [Nat.succ_mul] at hlen
    refine Ev.step (fun k => ?_) (cut_l2 (v := v) hn hx ha hw hb hb2 hB hc h6 hq (by omega : m < w) B 0 acc (by omega) (by omega) ?_)
    · simp only [athanorref04_Cut.l1]
      rw [if_pos (by omega)]
      rfl
    · refine ih (m + 1) _ (by omega) (by rw [List.length_append, List.length_map, List.length_range']; omega) ?_
      rw [List.append_assoc]
      exact h
theorem cut_l0 (hn : n < s.length) (hx : 1 ≤ rd s (n : Int)) (ha : 0 ≤ a) (hw : b = a + w) (hb : b ≤ rd s (n : Int)) (hb2 : b ≤ 1024) (hB : B ≤ 100000) (hP : P ≤ 100000) (hc : (P : Int) * rd s (n : Int) * B = c.length) (h6 : c.length ≤ 600) :
    ∀ (d q : Nat) (acc : List Int), q + d = P → acc.length + d * (w * B) ≤ 1000000 →
      Ev (fun k => athanorref04_Cut.l0 k s c (n : Int) a b (P : Int) (B : Int) acc (q : Int)) (acc ++ (List.range' q d).flatMap fun q => (List.range' 0 w).flatMap fun m => (List.range' 0 B).map (refG s c n a B q m)) := by
  intro d
  induction d with
  | zero =>
    intro q acc hq _
    refine Ev.step (fun k => ?_) (Ev.now _)
    simp only [athanorref04_Cut.l0, List.range'_zero, List.flatMap_nil, List.append_nil]
    rw [if_neg (by omega)]
  | succ d ih =>
    intro q acc hq hlen
    rw [Nat.succ_mul] at hlen
    have hl : (acc ++ (List.range' 0 w).flatMap fun m => (List.range' 0 B).map (refG s c n a B q m)).length = acc.length + w * B := by
      rw [List.length_append, List.length_flatMap]
      have hs : ∀ l : List Nat, (l.map fun _ => B).sum = l.length * B := by
        intro l; induction l with
        | nil => simp
        | cons x l ih => simp only [List.map_cons, List.sum_cons, List.length_cons, ih, Nat.succ_mul]; omega
      simp [hs]
    have h := ih (q + 1) (acc ++ (List.range' 0 w).flatMap fun m => (List.range' 0 B).map (refG s c n a B q m)) (by omega) (by rw [hl]; omega)
    rw [List.append_assoc] at h
    refine Ev.step (fun k => ?_) (cut_l1 hn hx ha hw hb hb2 hB hP hc h6 (by omega : q < P) w 0 acc (by omega) (by omega) h)
    simp only [athanorref04_Cut.l0]
    rw [if_pos (by omega)]
    simp
end
theorem parts_ev (s : List Int) (n : Nat) (hr : rightS s = true) (hn : n < s.length) : Ev (fun k => athanorref04_Parts.f k s (n : Int)) (prod (s.take n), prod (s.drop (n + 1))) := by
  obtain ⟨r1, r2, r3, r4, r5⟩ := rightS_true hr
  refine Ev.congr (f := fun k => (athanorref03_Size.f k (s.take n)).bind fun t => (athanorref03_Size.f k (s.drop (n + 1))).bind fun u => some (t, u)) (fun k => ?_) ?_
  · unfold athanorref04_Parts.f PartsW.f
    rw [if_pos ⟨by omega, by omega, by omega⟩, Int.toNat_natCast, show ((n : Int) + 1).toNat = n + 1 by omega]
  · refine Ev.bind (refSize_ev _ (by rw [List.length_take]; omega) (fun x hx => r3 x (List.mem_of_mem_take hx))) ?_
    refine Ev.bind (refSize_ev _ (by rw [List.length_drop]; omega) (fun x hx => r3 x (List.mem_of_mem_drop hx))) ?_
    exact Ev.now _
theorem flatMap_congr' {α : Type} {f g : Nat → List α} (l : List Nat) (h : ∀ x ∈ l, f x = g x) : l.flatMap f = l.flatMap g := by
  induction l with
  | nil => rfl
  | cons x l ih => rw [List.flatMap_cons, List.flatMap_cons, h x List.mem_cons_self, ih (fun y hy => h y (List.mem_cons_of_mem _ hy))]
theorem refCut_ev {s c : List Int} {n : Nat} {a b : Int} (hr : rightS s = true) (hn : n < s.length) (ha : 0 ≤ a) (hb : b ≤ rd s (n : Int)) (hab : a < b) (hT : prod s = c.length) (h6 : c.length ≤ 600) :
    Ev (fun k => athanorref04_Cut.f k s c (n : Int) a b) ((List.range (prod (s.set n (b - a))).toNat).map (cutC s c (s.set n (b - a)) (n : Int) a)) := by
  obtain ⟨r1, r2, r3, r4, r5⟩ := rightS_true hr
  have hx := r3 _ (rd_mem (l := s) (i := (n : Int)) (by omega) (by omega))
  have hs1 : ∀ y ∈ s, 1 ≤ y := fun y hy => (r3 y hy).1
  have hP1 : 1 ≤ prod (s.take n) := prod_ge fun y hy => hs1 y (List.mem_of_mem_take hy)
  have hB1 : 1 ≤ prod (s.drop (n + 1)) := prod_ge fun y hy => hs1 y (List.mem_of_mem_drop hy)
  have hsp := prod_split s n hn
  rw [hT] at hsp
  have hsp' := prod_split (s.set n (b - a)) n (by rw [List.length_set]; exact hn)
  rw [List.take_set_of_le (Nat.le_refl n), List.drop_set_of_lt (Nat.lt_succ_self n), rd_set_self s n _ hn] at hsp'
  have hpl := fun K : Nat => cutPlace s n (b - a) a (K : Int) 0 hs1 hn (by omega) ha (by omega) (by omega)
  have hlen := fun K : Nat => (cut_place (s := s) (n := n) (a := a) (b := b) (k := (K : Int)) hr hn ha hb hab rfl).1
  unfold athanorref04_Cut.f
  refine Ev.bind (parts_ev s n hr hn) ?_
  simp only
  obtain ⟨P, hP⟩ := Int.eq_ofNat_of_zero_le (show 0 ≤ prod (s.take n) by omega)
  obtain ⟨B, hB⟩ := Int.eq_ofNat_of_zero_le (show 0 ≤ prod (s.drop (n + 1)) by omega)
  obtain ⟨w, hw⟩ := Int.eq_ofNat_of_zero_le (show 0 ≤ b - a by omega)
  rw [hP, hB] at hsp hsp' hpl ⊢
  rw [hP] at hP1
  rw [hB] at hB1
  rw [hw] at hsp' hpl hlen ⊢
  have i0 : 0 ≤ (P : Int) * rd s (n : Int) := Int.mul_nonneg (by omega) (by omega)
  have i1 : (P : Int) * rd s (n : Int) * 1 ≤ (P : Int) * rd s (n : Int) * B := Int.mul_le_mul_of_nonneg_left (by omega) i0
  have i2 : (P : Int) * 1 ≤ (P : Int) * rd s (n : Int) := Int.mul_le_mul_of_nonneg_left (by omega) (by omega)
  have i3 : 1 * (B : Int) ≤ (P : Int) * rd s (n : Int) * B := Int.mul_le_mul_of_nonneg_right (by omega) (by omega)
  have i4 : (P : Int) * w * B ≤ (P : Int) * rd s (n : Int) * B := Int.mul_le_mul_of_nonneg_right (Int.mul_le_mul_of_nonneg_left (by omega) (by omega)) (by omega)
  have hN : (prod (s.set n (w : Int))).toNat = P * w * B := by
    rw [hsp']
    have : ((P * w * B : Nat) : Int) = (P : Int) * w * B := by simp only [Int.natCast_mul]
    rw [← this]; exact Int.toNat_natCast _
  have hmain := cut_l0 (s := s) (c := c) (n := n) (P := P) (B := B) (w := w) (a := a) (b := b) hn hx.1 ha (by omega) hb (by omega) (by omega) (by omega) hsp.symm h6 P 0 [] (by omega) (by
    have h1 : ((P * (w * B) : Nat) : Int) = (P : Int) * w * B := by simp only [Int.natCast_mul]; rw [Int.mul_assoc]
    simp only [List.length_nil]; omega)
  rw [List.nil_append] at hmain
  rw [hN, range_mul, range_mul']
  have he : ((List.range P).flatMap fun i => (List.range w).flatMap fun j => (List.range B).map fun j_1 => cutC s c (s.set n (w : Int)) (n : Int) a ((i * w + j) * B + j_1)) = (List.range' 0 P).flatMap fun q => (List.range' 0 w).flatMap fun m => (List.range' 0 B).map (refG s c n a B q m) := by
    simp only [← List.range_eq_range']
    refine flatMap_congr' _ (fun q hq => flatMap_congr' _ (fun m hm => List.map_congr_left (fun j hj => ?_)))
    rw [List.mem_range] at hq hm hj
    have hK1 : ((q * w + m) * B + j) / B = q * w + m := by rw [Nat.mul_comm, Nat.mul_add_div (by omega), Nat.div_eq_of_lt hj]; rfl
    have hK2 : ((q * w + m) * B + j) % B = j := by rw [Nat.mul_comm, Nat.mul_add_mod, Nat.mod_eq_of_lt hj]
    have hQ1 : (q * w + m) / w = q := by rw [Nat.mul_comm, Nat.mul_add_div (by omega), Nat.div_eq_of_lt hm]; rfl
    have hQ2 : (q * w + m) % w = m := by rw [Nat.mul_comm, Nat.mul_add_mod, Nat.mod_eq_of_lt hm]
    have h1 := hpl ((q * w + m) * B + j)
    rw [← Int.natCast_ediv, ← Int.natCast_emod ((q * w + m) * B + j), hK1, hK2, ← Int.natCast_ediv, ← Int.natCast_emod (q * w + m), hQ1, hQ2, ← Int.natCast_emod, Nat.mod_eq_of_lt hq, Int.zero_mul, Int.zero_add] at h1
    unfold cutC refG placeS
    rw [if_pos hr, if_pos (hlen _), h1, Int.add_comm (m : Int) a]
  rw [he]
  exact hmain
theorem awake_ev : Ev (fun k => athanorlaw04_awake.f k) true := Ev.of (fun k => athanorlaw04_awake.mono k) (k := 60) (by decide +kernel)
theorem aw : Ev (fun k => (athanorlaw04_awake.f k).bind fun t => some t) true := Ev.bind awake_ev (Ev.now _)
theorem small_f (s c : List Int) : athanorlaw04_small.f s c = some (decide (s.length ≤ 50 ∧ c.length ≤ 600)) := by
  unfold athanorlaw04_small.f
  by_cases h : (s.length : Int) ≤ 50
  · rw [if_pos h]; congr 1; rw [decide_eq_decide]; omega
  · rw [if_neg h, decide_eq_false (by omega)]
theorem cellsLoop (s c : List Int) (hc : c.length ≤ 100000000) : ∀ (t : List Int) (i : Nat), c.drop i = t → Ev (fun k => athanorlaw04_cells.l0 k (c.take i) c (c.length : Int) (i : Int)) c := by
  intro t
  induction t with
  | nil =>
    intro i h
    have hi := drop_nil h
    refine Ev.step (fun k => ?_) (Ev.now _)
    simp only [athanorlaw04_cells.l0]
    rw [if_neg (by omega), List.take_of_length_le hi]
  | cons x t ih =>
    intro i h
    obtain ⟨h1, h2, h3⟩ := drop_cons h
    refine Ev.step (fun k => ?_) (ih (i + 1) h3)
    simp only [athanorlaw04_cells.l0]
    rw [if_pos (by omega), if_pos (by omega), if_pos (by omega), if_pos (by rw [List.length_take]; omega), w64s h1 (by omega), rd_nat c i h1, List.take_append_getElem h1]
theorem cells_ev (s c : List Int) (hc : c.length ≤ 100000000) : Ev (fun k => athanorlaw04_cells.f k s c) c := by
  unfold athanorlaw04_cells.f
  exact cellsLoop s c hc c 0 (by simp)
theorem sameLoop (s c : List Int) (hc : c.length ≤ 140737488351232) : ∀ (t : List Int) (i : Nat), c.drop i = t → Ev (fun k => athanorlaw04_same.l0 k c (c.length : Int) (i : Int) s c) true := by
  intro t
  induction t with
  | nil =>
    intro i h
    have hi := drop_nil h
    refine Ev.step (fun k => ?_) (Ev.now _)
    simp only [athanorlaw04_same.l0]
    rw [if_neg (by omega)]
  | cons x t ih =>
    intro i h
    obtain ⟨h1, h2, h3⟩ := drop_cons h
    refine Ev.step (fun k => ?_) (ih (i + 1) h3)
    simp only [athanorlaw04_same.l0]
    rw [if_pos (by omega), if_pos (by omega), if_pos (by omega), if_pos (by omega), if_pos trivial, w64s h1 hc]
theorem same4_ev (s c : List Int) (hc : c.length ≤ 140737488351232) : Ev (fun k => athanorlaw04_same.f k s c c) true := by
  unfold athanorlaw04_same.f
  simp only [if_true]
  exact sameLoop s c hc c 0 (by simp)
theorem TensorCuts : athanorlaw04_TensorCuts.Pure := by
  intro z hz
  obtain ⟨⟨s, c⟩, ⟨s2, c2⟩, side, a, b⟩ := z
  obtain ⟨⟨_, _⟩, _, hw1, hw2, hw3⟩ := hz
  have b1 := wf64 hw1
  have b2 := wf64 hw2
  have b3 := wf64 hw3
  simp only at b1 b2 b3 ⊢
  refine Ev.rounds (g := fun k => athanorlaw04_TensorCuts.f k s c s2 c2 side a b) ?_
  unfold athanorlaw04_TensorCuts.f
  simp only [small_f, Option.bind_some, decide_eq_true_eq]
  by_cases h : s.length ≤ 50 ∧ c.length ≤ 600
  · simp only [h, and_self, if_true]
    obtain ⟨h1, h2⟩ := h
    rw [show tensor_Grid_fix_F_Cut.f s c side a b = some (cutT s c side a b) by unfold tensor_Grid_fix_F_Cut.f CutW.cutF; rw [if_pos ⟨h1, h2, b1, b2, b3⟩]]
    simp only [Option.bind_some]
    refine Ev.bind (rightL_ev s c) ?_
    cases e : rightT s c with
    | false =>
      have e1 : cutT s c side a b = ([], [], 20) := by unfold cutT; rw [e]; rfl
      simp only [e1, Bool.false_eq_true, if_false, if_true, List.length_nil]
      exact aw
    | true =>
      simp only [if_true]
      refine Ev.bind (cut_ev s side a b (by omega)) ?_
      by_cases f : (cutS s side a b).2 = 0
      · have e1 : cutT s c side a b = ((cutS s side a b).1, (List.range (prod (cutS s side a b).1).toNat).map (cutC s c (cutS s side a b).1 side a), 0) := by unfold cutT; rw [if_pos e, if_pos f]
        obtain ⟨hr, n, rfl, hn, ha, hb, hab, hs'⟩ := cutS_true f
        have hT := (rightT_true e).2
        simp only [e1, f, if_true]
        simp only [if_neg (show ¬ (n : Int) < 0 by omega), if_neg (show ¬ (n : Int) ≥ (s.length : Int) by omega), if_neg (show ¬ a < 0 by omega), if_pos (show 0 ≤ (n : Int) by omega), if_pos (show (n : Int) < (s.length : Int) by omega), show decide (b > rd s (n : Int)) = false from decide_eq_false (by omega), hs']
        refine Ev.step (f := fun k => (shape_Shape_Equal.f k (s.set n (b - a)) (s.set n (b - a))).bind fun t318 => if t318 = true then (athanorlaw04_cells.f k s c).bind fun t319 => (athanorref04_Cut.f k s t319 (n : Int) a b).bind fun t322 => (athanorlaw04_same.f k (s.set n (b - a)) ((List.range (prod (s.set n (b - a))).toNat).map (cutC s c (s.set n (b - a)) (n : Int) a)) t322).bind fun t325 => if t325 = true then (athanorlaw04_awake.f k).bind fun t326 => some t326 else none else none) (fun k => ?_) ?_
        · simp only [athanorlaw04_TensorCuts.j0, Bool.false_eq_true, if_false, if_true]
        · refine Ev.bind (equal_ev _ _ (by rw [List.length_set]; omega)) ?_
          simp only [decide_true, if_true]
          refine Ev.bind (cells_ev s c (by omega)) ?_
          refine Ev.bind (refCut_ev hr hn ha hb hab hT h2) ?_
          refine Ev.bind (same4_ev _ _ ?_) ?_
          · rw [List.length_map, List.length_range]
            have r := rightS_true hr
            have q := prod_set_le s n (b - a) (fun x hx => (r.2.2.1 x hx).1) hn (by omega) (by omega)
            omega
          · simp only [if_true]
            exact aw
      · have e1 : cutT s c side a b = ([], [], (cutS s side a b).2) := by unfold cutT; rw [if_pos e, if_neg f]
        simp only [e1, f, if_false, if_true, List.length_nil]
        exact aw
  · simp only [h, if_false]
    exact aw
end Go.Proofs.Ytmekcfmhaflghaa.LawsCuts
