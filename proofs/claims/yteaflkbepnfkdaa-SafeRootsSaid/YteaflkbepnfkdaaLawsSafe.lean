/- The five laws of package safe, on the printed functions: any numbers are added and multiplied as the document says, or refused; roots, differences, shares and maxima are right; the order of the numbers does not matter. Conditions: those of the printed statements (64-bit numbers; lists of at most 2^47 - 4096 bytes). -/
import Derived.Test.YteaflkbepnfkdaaPSafex
import Derived.Test.YteaflkbepnfkdaaAidSafe
namespace Go.Proofs.Yteaflkbepnfkdaa.LawsSafe
open Go.RowKit Go.Proofs.Yteaflkbepnfkdaa.PSafe Go.Proofs.Yteaflkbepnfkdaa.Aid Go.Proofs.Yteaflkbepnfkdaa.AidSafe Go.Proofs.YteaflkbepnfkdaaW.PrintWords Go.Proofs.YteaflkbepnfkdaaW.PrintLast Go.Proofs.YteaflkbepnfkdaaW.PrintMore
theorem awake_ev : Ev (fun k => athanorlaw02_awake.f k) true := Ev.of (fun k => athanorlaw02_awake.mono k) (k := 60) (by decide +kernel)
theorem refRight_f (x : Int) : athanorref02_Right.f x = some (!bad x) := by
  unfold athanorref02_Right.f bad
  by_cases h : 0 ≤ x
  · rw [if_pos h]; simp [h]
  · rw [if_neg h]; simp [h]
theorem refAdd1 (l : List Int) (hn : l.length ≤ 140737488351232) : ∀ (t : List Int) (i : Nat) (s : Int), l.drop i = t → 0 ≤ s → s ≤ 1099511627776 → t.any bad = false →
    Ev (fun k => athanorref02_Add.l1 k l s (i : Int)) (sumFrom s t) := by
  intro t
  induction t with
  | nil =>
    intro i s h h0 h1 hb
    have := drop_nil h
    refine Ev.step (fun k => ?_) (Ev.now _)
    simp only [athanorref02_Add.l1]; rw [if_neg (by omega)]; rfl
  | cons x t ih =>
    intro i s h h0 h1 hb
    obtain ⟨g1, g2, g3⟩ := drop_cons h
    rw [List.any_cons, Bool.or_eq_false_iff] at hb
    have hx := bad_false hb.1
    unfold sumFrom
    by_cases hc : s + x > 1099511627776
    · rw [if_pos hc]
      refine Ev.step (fun k => ?_) (Ev.now _)
      simp only [athanorref02_Add.l1]; rw [if_pos (by omega), if_pos (by omega), g2, w64 (by omega) (by omega), if_pos hc]
    · rw [if_neg hc]
      refine Ev.step (fun k => ?_) (ih (i + 1) (s + x) g3 (by omega) (by omega) hb.2)
      simp only [athanorref02_Add.l1]; rw [if_pos (by omega), if_pos (by omega), g2, w64 (x := s + x) (by omega) (by omega), if_neg hc, w64s g1 hn]
theorem refAdd0 (l : List Int) (hn : l.length ≤ 140737488351232) (hall : l.any bad = false → Ev (fun k => athanorref02_Add.l1 k l 0 0) (sumFrom 0 l)) : ∀ (t : List Int) (i : Nat), l.drop i = t → ((l.take i).any bad = false) →
    Ev (fun k => athanorref02_Add.l0 k l (i : Int)) (addS l) := by
  intro t
  induction t with
  | nil =>
    intro i h hb
    have hl := drop_nil h
    rw [List.take_of_length_le hl] at hb
    have e : addS l = sumFrom 0 l := by unfold addS; rw [if_neg (by simp [hb])]
    rw [e]
    refine Ev.step (fun k => ?_) (hall hb)
    simp only [athanorref02_Add.l0]; rw [if_neg (by omega)]
  | cons x t ih =>
    intro i h hb
    obtain ⟨g1, g2, g3⟩ := drop_cons h
    cases hx : bad x with
    | true =>
      have e : addS l = (0, 11) := by
        unfold addS; rw [if_pos]
        rw [← List.take_append_drop i l, List.any_append, h]; simp [hx]
      rw [e]
      refine Ev.step (fun k => ?_) (Ev.now _)
      simp only [athanorref02_Add.l0]; rw [if_pos (by omega), if_pos (by omega), g2, refRight_f, hx]; rfl
    | false =>
      refine Ev.step (fun k => ?_) (ih (i + 1) g3 ?_)
      · simp only [athanorref02_Add.l0]; rw [if_pos (by omega), if_pos (by omega), g2, refRight_f, hx, w64s g1 hn]; rfl
      · have := rd_nat l i g1
        rw [List.take_succ_eq_append_getElem g1, List.any_append, hb, ← this, g2]; simp [hx]
theorem refAdd_ev (l : List Int) (hn : l.length ≤ 140737488351232) : Ev (fun k => athanorref02_Add.f k l) (addS l) :=
  refAdd0 l hn (fun hb => refAdd1 l hn l 0 0 rfl (by omega) (by omega) hb) l 0 rfl rfl
theorem SafeSums : athanorlaw02_SafeSums.Pure := by
  intro l _ h8 _
  have hn : l.length ≤ 140737488351232 := by omega
  refine Ev.rounds (g := fun k => athanorlaw02_SafeSums.f k l) ?_
  unfold athanorlaw02_SafeSums.f
  by_cases h : (l.length : Int) > 200
  · simp only [h, if_true]; exact Ev.bind awake_ev (Ev.now _)
  · simp only [h, if_false]
    refine Ev.bind (add_ev l hn) (Ev.bind (refAdd_ev l hn) ?_)
    simp only [if_true]
    exact Ev.bind awake_ev (Ev.now _)
theorem refMul2 (l : List Int) (hn : l.length ≤ 140737488351232) : ∀ (t : List Int) (i : Nat) (o : Int), l.drop i = t → 1 ≤ o → o ≤ 1099511627776 → t.any bad = false → (t.any fun x => decide (0 = x)) = false →
    Ev (fun k => athanorref02_Mul.l2 k l o (i : Int)) (mulFrom o t) := by
  intro t
  induction t with
  | nil =>
    intro i o h h0 h1 hb hz
    have := drop_nil h
    refine Ev.step (fun k => ?_) (Ev.now _)
    simp only [athanorref02_Mul.l2]; rw [if_neg (by omega)]; rfl
  | cons x t ih =>
    intro i o h h0 h1 hb hz
    obtain ⟨g1, g2, g3⟩ := drop_cons h
    rw [List.any_cons, Bool.or_eq_false_iff] at hb hz
    have hx := bad_false hb.1
    have hx0 : ¬ 0 = x := by simpa using hz.1
    have hd := div_gt (o := x) (x := o) (by omega)
    have hr := div_range (o := x) (by omega)
    rw [Int.mul_comm] at hd
    unfold mulFrom
    by_cases hc : o * x > 1099511627776
    · rw [if_pos hc]
      refine Ev.step (fun k => ?_) (Ev.now _)
      simp only [athanorref02_Mul.l2]; rw [if_pos (by omega), if_pos (by omega), g2, if_neg (by omega), tdiv_pos (by omega), w64 (by omega) (by omega), if_pos (hd.2 hc)]
    · rw [if_neg hc]
      have hp := mul_pos' h0 (show 1 ≤ x by omega)
      refine Ev.step (fun k => ?_) (ih (i + 1) (o * x) g3 hp (by omega) hb.2 hz.2)
      simp only [athanorref02_Mul.l2]; rw [if_pos (by omega), if_pos (by omega), g2, if_neg (by omega), tdiv_pos (by omega), w64 (x := 1099511627776 / x) (by omega) (by omega), if_neg (fun h => hc (hd.1 h)), w64 (x := o * x) (by omega) (by omega), w64s g1 hn]
theorem refMul1 (l : List Int) (hn : l.length ≤ 140737488351232) (hb : l.any bad = false) : ∀ (t : List Int) (i : Nat), l.drop i = t → ((l.take i).any (fun x => decide (0 = x)) = false) →
    Ev (fun k => athanorref02_Mul.l1 k l (i : Int)) (mulS l) := by
  intro t
  induction t with
  | nil =>
    intro i h hz
    have hl := drop_nil h
    rw [List.take_of_length_le hl] at hz
    have e : mulS l = mulFrom 1 l := by unfold mulS; rw [if_neg (by rw [hb]; simp), if_neg (by rw [hz]; simp)]
    rw [e]
    refine Ev.step (fun k => ?_) (refMul2 l hn l 0 1 rfl (by omega) (by omega) hb hz)
    simp only [athanorref02_Mul.l1]; rw [if_neg (by omega)]; rfl
  | cons x t ih =>
    intro i h hz
    obtain ⟨g1, g2, g3⟩ := drop_cons h
    by_cases hx : x = 0
    · have e : mulS l = (0, 0) := by
        unfold mulS; rw [if_neg (by rw [hb]; simp), if_pos]
        rw [← List.take_append_drop i l, List.any_append, h]; simp [hx]
      rw [e]
      refine Ev.step (fun k => ?_) (Ev.now _)
      simp only [athanorref02_Mul.l1]; rw [if_pos (by omega), if_pos (by omega), g2, if_pos hx]
    · refine Ev.step (fun k => ?_) (ih (i + 1) g3 ?_)
      · simp only [athanorref02_Mul.l1]; rw [if_pos (by omega), if_pos (by omega), g2, if_neg hx, w64s g1 hn]
      · have := rd_nat l i g1
        rw [List.take_succ_eq_append_getElem g1, List.any_append, hz, ← this, g2]; simp; omega
theorem refMul0 (l : List Int) (hn : l.length ≤ 140737488351232) : ∀ (t : List Int) (i : Nat), l.drop i = t → ((l.take i).any bad = false) →
    Ev (fun k => athanorref02_Mul.l0 k l (i : Int)) (mulS l) := by
  intro t
  induction t with
  | nil =>
    intro i h hb
    have hl := drop_nil h
    rw [List.take_of_length_le hl] at hb
    refine Ev.step (fun k => ?_) (refMul1 l hn hb l 0 rfl rfl)
    simp only [athanorref02_Mul.l0]; rw [if_neg (by omega)]; rfl
  | cons x t ih =>
    intro i h hb
    obtain ⟨g1, g2, g3⟩ := drop_cons h
    cases hx : bad x with
    | true =>
      have e : mulS l = (0, 11) := by
        unfold mulS; rw [if_pos]
        rw [← List.take_append_drop i l, List.any_append, h]; simp [hx]
      rw [e]
      refine Ev.step (fun k => ?_) (Ev.now _)
      simp only [athanorref02_Mul.l0]; rw [if_pos (by omega), if_pos (by omega), g2, refRight_f, hx]; rfl
    | false =>
      refine Ev.step (fun k => ?_) (ih (i + 1) g3 ?_)
      · simp only [athanorref02_Mul.l0]; rw [if_pos (by omega), if_pos (by omega), g2, refRight_f, hx, w64s g1 hn]; rfl
      · have := rd_nat l i g1
        rw [List.take_succ_eq_append_getElem g1, List.any_append, hb, ← this, g2]; simp [hx]
theorem SafeProducts : athanorlaw02_SafeProducts.Pure := by
  intro l _ h8 _
  have hn : l.length ≤ 140737488351232 := by omega
  refine Ev.rounds (g := fun k => athanorlaw02_SafeProducts.f k l) ?_
  unfold athanorlaw02_SafeProducts.f
  by_cases h : (l.length : Int) > 200
  · simp only [h, if_true]; exact Ev.bind awake_ev (Ev.now _)
  · simp only [h, if_false]
    refine Ev.bind (mul_ev l hn) (Ev.bind (refMul0 l hn l 0 rfl rfl) ?_)
    simp only [if_true]
    exact Ev.bind awake_ev (Ev.now _)
/-- The root, by halves. -/
theorem sq_le {m n : Int} (hm : 1 ≤ m) : m ≤ n / m ↔ m * m ≤ n := Int.le_ediv_iff_mul_le (by omega)
theorem sq_mono {a b : Int} (ha : 0 ≤ a) (h : a ≤ b) : a * a ≤ b * b := Int.mul_le_mul h h ha (by omega)
theorem isqrt_ev (n : Int) (hn0 : 1 ≤ n) (hn1 : n ≤ 9223372036854775807) : ∀ (d : Nat) (lo hi : Int), hi - lo ≤ d → 1 ≤ lo → lo ≤ hi → hi ≤ 4294967296 → lo * lo ≤ n → n < (hi + 1) * (hi + 1) →
    ∃ r, Ev (fun k => safe_Isqrt.l0 k n lo hi) r ∧ 1 ≤ r ∧ r ≤ 4294967296 ∧ r * r ≤ n ∧ n < (r + 1) * (r + 1) := by
  intro d
  induction d with
  | zero =>
    intro lo hi hd h1 h2 h3 h4 h5
    obtain rfl : lo = hi := by omega
    refine ⟨lo, Ev.step (fun k => ?_) (Ev.now _), h1, h3, h4, h5⟩
    simp only [safe_Isqrt.l0]; rw [if_neg (by omega)]
  | succ d ih =>
    intro lo hi hd h1 h2 h3 h4 h5
    by_cases hlt : lo < hi
    · obtain ⟨mid, hm⟩ : ∃ mid : Int, mid = (lo + hi + 1) / 2 := ⟨_, rfl⟩
      have hm1 : lo < mid := by omega
      have hm2 : mid ≤ hi := by omega
      have hsq := sq_le (m := mid) (n := n) (by omega)
      have hdv : 0 ≤ n / mid ∧ n / mid ≤ n := ⟨Int.ediv_nonneg (by omega) (by omega), Int.ediv_le_self _ (by omega)⟩
      have e : wrap64 (Int.tdiv (wrap64 ((wrap64 (lo + hi)) + 1)) 2) = mid := by
        rw [w64 (x := lo + hi) (by omega) (by omega), w64 (x := lo + hi + 1) (by omega) (by omega), tdiv_pos (by omega), ← hm, w64 (by omega) (by omega)]
      by_cases hc : mid * mid ≤ n
      · obtain ⟨r, hr, hk⟩ := ih mid hi (by omega) (by omega) hm2 h3 hc h5
        refine ⟨r, Ev.step (fun k => ?_) hr, hk⟩
        simp only [safe_Isqrt.l0, e]; rw [if_pos hlt, if_neg (by omega), tdiv_pos (by omega), w64 (by omega) (by omega), if_pos (hsq.2 hc)]
      · obtain ⟨r, hr, hk⟩ := ih lo (mid - 1) (by omega) h1 (by omega) (by omega) h4 (by rw [show mid - 1 + 1 = mid by omega]; omega)
        refine ⟨r, Ev.step (fun k => ?_) hr, hk⟩
        simp only [safe_Isqrt.l0, e]; rw [if_pos hlt, if_neg (by omega), tdiv_pos (by omega), w64 (x := n / mid) (by omega) (by omega), if_neg (fun h => hc (hsq.1 h)), w64 (x := mid - 1) (by omega) (by omega)]
    · obtain rfl : lo = hi := by omega
      refine ⟨lo, Ev.step (fun k => ?_) (Ev.now _), h1, h3, h4, h5⟩
      simp only [safe_Isqrt.l0]; rw [if_neg (by omega)]
theorem SafeRoots : athanorlaw02_SafeRoots.Pure := by
  intro n hw
  obtain ⟨w0, w1⟩ := wf64 hw
  refine Ev.rounds (g := fun k => athanorlaw02_SafeRoots.f k n) ?_
  unfold athanorlaw02_SafeRoots.f safe_Isqrt.f
  by_cases h : n < 1
  · simp only [h, if_true]
    refine Ev.bind (Ev.now _) ?_
    simp only [if_true]
    exact Ev.bind awake_ev (Ev.now _)
  · simp only [h, if_false]
    obtain ⟨r, hr, h1, h2, h3, h4⟩ := isqrt_ev n (by omega) w1 4294967296 1 4294967296 (by omega) (by omega) (by omega) (by omega) (by omega) (by omega)
    refine Ev.bind hr ?_
    have d0 : 0 ≤ n / r ∧ n / r ≤ n := ⟨Int.ediv_nonneg (by omega) (by omega), Int.ediv_le_self _ (by omega)⟩
    have d1 : 0 ≤ n / (r + 1) ∧ n / (r + 1) ≤ n := ⟨Int.ediv_nonneg (by omega) (by omega), Int.ediv_le_self _ (by omega)⟩
    have s0 := (sq_le (m := r) (n := n) (by omega)).2 h3
    have s1 : r + 1 > n / (r + 1) := by
      have := (sq_le (m := r + 1) (n := n) (by omega)).1
      apply Int.lt_of_not_ge; intro hge; have := this hge; omega
    have e1 : wrap64 (r + 1) = r + 1 := w64 (by omega) (by omega)
    have e2 : wrap64 (Int.tdiv n r) = n / r := by rw [tdiv_pos (by omega), w64 (by omega) (by omega)]
    have e3 : wrap64 (Int.tdiv n (r + 1)) = n / (r + 1) := by rw [tdiv_pos (by omega), w64 (by omega) (by omega)]
    have c1 : r ≥ 1 := h1
    have c2 : ¬ r = 0 := by omega
    have c3 : ¬ r + 1 = 0 := by omega
    simp only [e1, e2, e3, c1, c2, c3, s0, s1, if_true, if_false]
    exact Ev.bind awake_ev (Ev.now _)
def total : List Int → Int
  | [] => 0
  | x :: t => x + total t
theorem total_nonneg : ∀ l : List Int, l.any bad = false → 0 ≤ total l
  | [], _ => Int.le_refl _
  | x :: t, h => by
    rw [List.any_cons, Bool.or_eq_false_iff] at h
    have := bad_false h.1; have := total_nonneg t h.2; unfold total; omega
theorem sumFrom_total : ∀ (l : List Int) (s : Int), 0 ≤ s → s ≤ 1099511627776 → l.any bad = false → sumFrom s l = if s + total l > 1099511627776 then (0, 17) else (s + total l, 0)
  | [], s, _, h, _ => by unfold sumFrom total; rw [if_neg (by omega)]; simp
  | x :: t, s, h0, h1, hb => by
    rw [List.any_cons, Bool.or_eq_false_iff] at hb
    have hx := bad_false hb.1
    have ht := total_nonneg t hb.2
    unfold sumFrom total
    by_cases hc : s + x > 1099511627776
    · rw [if_pos hc, if_pos (by omega)]
    · rw [if_neg hc, sumFrom_total t (s + x) (by omega) (by omega) hb.2, show s + x + total t = s + (x + total t) by omega]
theorem total_append : ∀ a b : List Int, total (a ++ b) = total a + total b
  | [], b => by simp [total]
  | x :: t, b => by simp only [List.cons_append, total, total_append t b]; omega
theorem total_reverse : ∀ l : List Int, total l.reverse = total l
  | [] => rfl
  | x :: t => by rw [List.reverse_cons, total_append, total_reverse t]; simp only [total]; omega
theorem addS_reverse (l : List Int) : addS l.reverse = addS l := by
  unfold addS
  rw [List.any_reverse]
  by_cases h : l.any bad = true
  · rw [if_pos h, if_pos h]
  · rw [if_neg h, if_neg h]
    have hb : l.any bad = false := by simpa using h
    rw [sumFrom_total _ _ (by omega) (by omega) hb, sumFrom_total _ _ (by omega) (by omega) (by rw [List.any_reverse]; exact hb), total_reverse]
def prod : List Int → Int
  | [] => 1
  | x :: t => x * prod t
theorem one_le {l : List Int} : l.any bad = false → (l.any fun x => decide (0 = x)) = false → 1 ≤ prod l := by
  induction l with
  | nil => intro _ _; exact Int.le_refl _
  | cons x t ih =>
    intro hb hz
    rw [List.any_cons, Bool.or_eq_false_iff] at hb hz
    have hx := bad_false hb.1
    have hx0 : ¬ 0 = x := by simpa using hz.1
    exact mul_pos' (by omega) (ih hb.2 hz.2)
theorem mulFrom_prod : ∀ (l : List Int) (o : Int), 1 ≤ o → o ≤ 1099511627776 → l.any bad = false → (l.any fun x => decide (0 = x)) = false → mulFrom o l = if o * prod l > 1099511627776 then (0, 17) else (o * prod l, 0)
  | [], o, h0, h1, _, _ => by unfold mulFrom prod; rw [if_neg (by omega)]; simp
  | x :: t, o, h0, h1, hb, hz => by
    rw [List.any_cons, Bool.or_eq_false_iff] at hb hz
    have hx := bad_false hb.1
    have hx0 : ¬ 0 = x := by simpa using hz.1
    have hp := one_le hb.2 hz.2
    have ho := mul_pos' h0 (show 1 ≤ x by omega)
    unfold mulFrom prod
    rw [← Int.mul_assoc]
    by_cases hc : o * x > 1099511627776
    · have := Int.mul_le_mul_of_nonneg_left hp (show 0 ≤ o * x by omega); rw [Int.mul_one] at this
      rw [if_pos hc, if_pos (by omega)]
    · rw [if_neg hc, mulFrom_prod t (o * x) ho (by omega) hb.2 hz.2]
theorem prod_append : ∀ a b : List Int, prod (a ++ b) = prod a * prod b
  | [], b => by simp [prod]
  | x :: t, b => by simp only [List.cons_append, prod, prod_append t b, Int.mul_assoc]
theorem prod_reverse : ∀ l : List Int, prod l.reverse = prod l
  | [] => rfl
  | x :: t => by rw [List.reverse_cons, prod_append, prod_reverse t]; simp only [prod]; rw [Int.mul_one, Int.mul_comm]
theorem mulS_reverse (l : List Int) : mulS l.reverse = mulS l := by
  unfold mulS
  rw [List.any_reverse, List.any_reverse]
  by_cases h : l.any bad = true
  · rw [if_pos h, if_pos h]
  · rw [if_neg h, if_neg h]
    by_cases hz : (l.any fun x => decide (0 = x)) = true
    · rw [if_pos hz, if_pos hz]
    · rw [if_neg hz, if_neg hz]
      have hb : l.any bad = false := by simpa using h
      have hz' := (Bool.not_eq_true _).mp hz
      rw [mulFrom_prod _ _ (by omega) (by omega) hb hz', mulFrom_prod _ _ (by omega) (by omega) (by rw [List.any_reverse]; exact hb) (by rw [List.any_reverse]; exact hz'), prod_reverse]
theorem turned_ev (l : List Int) (hn : l.length ≤ 200) : ∀ (d i : Nat), i + d = l.length →
    Ev (fun k => athanorlaw02_SafeTurned.l0 k l (l.reverse.take i) (l.length : Int) (i : Int)) true := by
  intro d
  induction d with
  | zero =>
    intro i h
    refine Ev.step (f := fun k => (safe_Add.f k l).bind fun bt167 => ((safe_Add.f k l.reverse).bind fun bt169 => ((safe_Mul.f k l).bind fun bt171 => ((safe_Mul.f k l.reverse).bind fun bt173 => if bt167.1 = bt169.1 then (if bt167.2 = bt169.2 then (if bt171.1 = bt173.1 then (if bt171.2 = bt173.2 then ((athanorlaw02_awake.f k).bind fun t175 => (some t175)) else (some false)) else (some false)) else (some false)) else (some false))))) (fun k => ?_) (Ev.bind (add_ev l (by omega)) (Ev.bind (add_ev l.reverse (by simp; omega)) (Ev.bind (mul_ev l (by omega)) (Ev.bind (mul_ev l.reverse (by simp; omega)) ?_))))
    · simp only [athanorlaw02_SafeTurned.l0]; rw [if_neg (by omega), List.take_of_length_le (by simp; omega)]
    · simp only [addS_reverse, mulS_reverse, if_true]; exact Ev.bind awake_ev (Ev.now _)
  | succ d ih =>
    intro i h
    have hi : i < l.length := by omega
    have e1 : wrap64 (wrap64 ((l.length : Int) - 1) - (i : Int)) = ((l.length - 1 - i : Nat) : Int) := by unfold wrap64; omega
    refine Ev.step (fun k => ?_) (ih (i + 1) (by omega))
    simp only [athanorlaw02_SafeTurned.l0]
    rw [if_pos (by omega), e1, if_pos (by omega), if_pos (by omega), if_pos (by simp; omega), w64s hi (by omega), rd_nat l _ (by omega)]
    congr 1
    rw [List.take_succ_eq_append_getElem (by simpa using hi), List.getElem_reverse]
theorem SafeTurned : athanorlaw02_SafeTurned.Pure := by
  intro l _ h8 _
  refine Ev.rounds (g := fun k => athanorlaw02_SafeTurned.f k l) ?_
  unfold athanorlaw02_SafeTurned.f
  by_cases h : (l.length : Int) > 200
  · simp only [h, if_true]; exact Ev.bind awake_ev (Ev.now _)
  · simp only [h, if_false]
    exact turned_ev l (by omega) l.length 0 (by omega)
/-- The greatest of some numbers, and of a number ahead. -/
def maxFrom (m : Int) : List Int → Int
  | [] => m
  | x :: t => maxFrom (mx m x) t
theorem max_ev (l : List Int) (hn : l.length ≤ 140737488351232) : ∀ (t : List Int) (i : Nat) (m : Int), l.drop i = t → Ev (fun k => safe_Max.l0 k m l (l.length : Int) (i : Int)) (maxFrom m t) := by
  intro t
  induction t with
  | nil =>
    intro i m h
    have := drop_nil h
    refine Ev.step (fun k => ?_) (Ev.now _)
    simp only [safe_Max.l0]; rw [if_neg (by omega)]; rfl
  | cons x t ih =>
    intro i m h
    obtain ⟨g1, g2, g3⟩ := drop_cons h
    refine Ev.step (fun k => ?_) (ih (i + 1) (mx m x) g3)
    simp only [safe_Max.l0]; rw [if_pos (by omega), if_pos (by omega), if_pos (by omega), g2, w64s g1 hn]
theorem partsMax (a : Int) (l : List Int) (hn : l.length ≤ 140737488351232) : ∀ (t : List Int) (i : Nat) (m : Int), l.drop i = t → maxFrom m t = maxFrom 0 l →
    Ev (fun k => athanorlaw02_SafeParts.l0 k a l m l (l.length : Int) (i : Int)) true := by
  intro t
  induction t with
  | nil =>
    intro i m h hm
    have := drop_nil h
    refine Ev.step (f := fun k => (safe_Max.f k l).bind fun t189 => (if t189 = m then ((safe_Right.f a).bind fun t190 => ((athanorref02_Right.f a).bind fun t191 => (if (t190 == t191) = true then ((athanorlaw02_awake.f k).bind fun t192 => (some t192)) else (some false)))) else (some false))) (fun k => ?_) (Ev.bind (max_ev l hn l 0 0 rfl) ?_)
    · simp only [athanorlaw02_SafeParts.l0]; rw [if_neg (by omega)]
    · rw [← hm]; simp only [maxFrom, if_true, right_f, refRight_f, Option.bind_some, beq_self_eq_true]
      exact Ev.bind awake_ev (Ev.now _)
  | cons x t ih =>
    intro i m h hm
    obtain ⟨g1, g2, g3⟩ := drop_cons h
    refine Ev.step (fun k => ?_) (ih (i + 1) (mx m x) g3 hm)
    simp only [athanorlaw02_SafeParts.l0]; rw [if_pos (by omega), if_pos (by omega), if_pos (by omega), g2, w64s g1 hn]
theorem j3_ev (a : Int) (l : List Int) (hn : l.length ≤ 140737488351232) : Ev (fun k => athanorlaw02_SafeParts.j3 k a l) true :=
  Ev.step (fun _ => rfl) (partsMax a l hn l 0 0 rfl rfl)
theorem j2_ev (a b : Int) (l : List Int) (hn : l.length ≤ 140737488351232) (q r f : Int) (g : Bool)
    (h1 : g = true → f = 0 ∧ wrap64 (wrap64 (q * b) + r) = a ∧ 0 ≤ r ∧ r < b) (h2 : g = false → f = 11 ∧ q = 0 ∧ r = 0) : Ev (fun k => athanorlaw02_SafeParts.j2 k a b l q r f g) true := by
  refine Ev.step (fun k => ?_) (j3_ev a l hn)
  simp only [athanorlaw02_SafeParts.j2]
  cases g with
  | true => obtain ⟨a1, a2, a3, a4⟩ := h1 rfl; rw [if_pos rfl, if_pos a1, if_pos a2, if_neg (by omega), if_neg (by omega)]
  | false => obtain ⟨a1, a2, a3⟩ := h2 rfl; rw [if_neg (by simp), if_pos a1, if_pos a2, if_pos a3]
def subS (a b : Int) : Int × Int := if bad a = true then (0, 11) else if bad b = true then (0, 11) else if b > a then (0, 17) else (a - b, 0)
theorem subj_ev (a b : Int) (g : Bool) (ha : bad a = false) (hb : bad b = g) : Ev (fun k => safe_Sub.j0 k a b g) (subS a b) := by
  have ha' := bad_false ha
  refine Ev.step (fun k => ?_) (Ev.now _)
  simp only [safe_Sub.j0, subS, ha, hb, Bool.false_eq_true, if_false]
  cases g with
  | true => simp
  | false =>
    have hb' := bad_false hb
    by_cases h : b > a
    · simp [h]
    · simp only [h, Bool.false_eq_true, if_false]; rw [w64 (by omega) (by omega)]
theorem sub_ev (a b : Int) : Ev (fun k => safe_Sub.f k a b) (subS a b) := by
  unfold safe_Sub.f
  simp only [right_f, Option.bind_some]
  cases ha : bad a with
  | true =>
    simp only [Bool.not_true, Bool.false_eq_true, if_false]
    refine Ev.step (fun k => ?_) (Ev.now _)
    simp only [safe_Sub.j0, subS, ha, if_true]
  | false =>
    simp only [Bool.not_false, if_true, Bool.not_not]
    exact subj_ev a b (bad b) ha rfl
def shareS (a b : Int) : Int × Int × Int := if bad a = true then (0, 0, 11) else if bad b = true then (0, 0, 11) else if b = 0 then (0, 0, 11) else (a / b, a % b, 0)
theorem share_f (a b : Int) : safe_Share.f a b = some (shareS a b) := by
  unfold safe_Share.f shareS
  simp only [right_f, Option.bind_some]
  cases ha : bad a with
  | true => simp
  | false =>
    cases hb : bad b with
    | true => simp
    | false =>
      have ha' := bad_false ha
      have hb' := bad_false hb
      by_cases h : b = 0
      · simp [h]
      · have hd : 0 ≤ a / b ∧ a / b ≤ a := ⟨Int.ediv_nonneg (by omega) (by omega), Int.ediv_le_self _ (by omega)⟩
        simp only [h, Bool.not_false, Bool.false_eq_true, if_true, if_false]
        rw [tdiv_pos (by omega), w64 (by omega) (by omega), Int.tmod_eq_emod_of_nonneg (by omega)]
theorem j0_ev (a b : Int) (l : List Int) (hn : l.length ≤ 140737488351232) (g : Bool) (hg : g = (!bad a && !bad b)) : Ev (fun k => athanorlaw02_SafeParts.j0 k a b l g) true := by
  have hj1 : Ev (fun k => athanorlaw02_SafeParts.j1 k a b l g (shareS a b).1 (shareS a b).2.1 (shareS a b).2.2) true := by
    cases hgg : g with
    | false =>
      rw [hgg] at hg
      refine Ev.step (fun k => by simp only [athanorlaw02_SafeParts.j1, Bool.false_eq_true, if_false]) (j2_ev a b l hn (shareS a b).1 (shareS a b).2.1 (shareS a b).2.2 false (by simp) ?_)
      intro _
      unfold shareS
      cases ha : bad a with
      | true => simp
      | false =>
        cases hb : bad b with
        | true => simp
        | false => rw [ha, hb] at hg; simp at hg
    | true =>
      rw [hgg] at hg
      cases ha : bad a with
      | true => rw [ha] at hg; simp at hg
      | false =>
        cases hb : bad b with
        | true => rw [hb] at hg; simp at hg
        | false =>
          have ha' := bad_false ha
          have hb' := bad_false hb
          refine Ev.step (fun k => by simp only [athanorlaw02_SafeParts.j1, if_true]) (j2_ev a b l hn (shareS a b).1 (shareS a b).2.1 (shareS a b).2.2 (decide (b > 0)) ?_ ?_)
          · intro h
            have hb0 : b > 0 := of_decide_eq_true h
            have e : shareS a b = (a / b, a % b, 0) := by unfold shareS; simp only [ha, hb, Bool.false_eq_true, if_false]; rw [if_neg (by omega)]
            rw [e]
            have h1 := Int.emod_nonneg a (show b ≠ 0 by omega)
            have h2 := Int.emod_lt_of_pos a hb0
            have h3 := Int.mul_ediv_add_emod a b
            have hd : 0 ≤ a / b ∧ a / b ≤ a := ⟨Int.ediv_nonneg (by omega) (by omega), Int.ediv_le_self _ (by omega)⟩
            have h4 : 0 ≤ b * (a / b) := Int.mul_nonneg (by omega) hd.1
            refine ⟨rfl, ?_, h1, h2⟩
            simp only []
            rw [Int.mul_comm, w64 (x := b * (a / b)) (by omega) (by omega), w64 (by omega) (by omega), h3]
          · intro h
            have hb0 : ¬ b > 0 := of_decide_eq_false h
            have e : shareS a b = (0, 0, 11) := by unfold shareS; simp only [ha, hb, Bool.false_eq_true, if_false]; rw [if_pos (by omega)]
            rw [e]; exact ⟨rfl, rfl, rfl⟩
  refine Ev.step (f := fun k => (safe_Sub.f k a b).bind fun bt183 => ((safe_Share.f a b).bind fun bt185 => (if g = true then (if b > a then (if bt183.2 = 17 then (if bt183.1 = 0 then (athanorlaw02_SafeParts.j1 k a b l g bt185.1 bt185.2.1 bt185.2.2) else (some false)) else (some false)) else (if bt183.2 = 0 then (if bt183.1 = (wrap64 (a - b)) then (athanorlaw02_SafeParts.j1 k a b l g bt185.1 bt185.2.1 bt185.2.2) else (some false)) else (some false))) else (if bt183.2 = 11 then (if bt183.1 = 0 then (athanorlaw02_SafeParts.j1 k a b l g bt185.1 bt185.2.1 bt185.2.2) else (some false)) else (some false))))) (fun k => rfl) (Ev.bind (sub_ev a b) ?_)
  simp only [share_f, Option.bind_some]
  cases ha : bad a with
  | true =>
    have e : g = false := by rw [hg, ha]; rfl
    have s : subS a b = (0, 11) := by unfold subS; simp [ha]
    simp only [e, s, Bool.false_eq_true, if_false, if_true]
    rw [e] at hj1; exact hj1
  | false =>
    cases hb : bad b with
    | true =>
      have e : g = false := by rw [hg, ha, hb]; rfl
      have s : subS a b = (0, 11) := by unfold subS; simp [ha, hb]
      simp only [e, s, Bool.false_eq_true, if_false, if_true]
      rw [e] at hj1; exact hj1
    | false =>
      have e : g = true := by rw [hg, ha, hb]; rfl
      have ha' := bad_false ha
      have hb' := bad_false hb
      rw [e] at hj1
      by_cases h : b > a
      · have s : subS a b = (0, 17) := by unfold subS; simp [ha, hb, h]
        simp only [e, s, h, if_true]; exact hj1
      · have s : subS a b = (a - b, 0) := by unfold subS; simp only [ha, hb, h, Bool.false_eq_true, if_false]
        have w : wrap64 (a - b) = a - b := w64 (by omega) (by omega)
        simp only [e, s, h, w, if_true, if_false]; exact hj1
theorem SafeParts : athanorlaw02_SafeParts.Pure := by
  intro a b l _ _ _ h8 _
  have hn : l.length ≤ 140737488351232 := by omega
  refine Ev.rounds (g := fun k => athanorlaw02_SafeParts.f k a b l) ?_
  unfold athanorlaw02_SafeParts.f
  by_cases h : (l.length : Int) > 200
  · simp only [h, if_true]; exact Ev.bind awake_ev (Ev.now _)
  · simp only [h, if_false, refRight_f, Option.bind_some]
    cases ha : bad a with
    | true => simp only [Bool.not_true, Bool.false_eq_true, if_false]; exact j0_ev a b l hn false (by rw [ha]; rfl)
    | false => simp only [Bool.not_false, if_true]; exact j0_ev a b l hn (!bad b) (by rw [ha]; simp)
end Go.Proofs.Yteaflkbepnfkdaa.LawsSafe
