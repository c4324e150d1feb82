/- What the printed quotients, sums, floors and whole numbers of package fix and of its reference answer. Conditions: numbers of 64 bits. -/
import Derived.Test.YtgaiaidigdennaaPFixx
import Derived.Test.YtgaiaidigdennaaAidDiv
set_option linter.unusedSimpArgs false
set_option linter.unusedVariables false
namespace Go.Proofs.Ytgaiaidigdennaa.AidQuo
open Go.RowKit Go.Proofs.Ytgaiaidigdennaa.PFix Go.Proofs.Ytgaiaidigdennaa.Aid Go.Proofs.Ytgaiaidigdennaa.AidFix Go.Proofs.Ytgaiaidigdennaa.AidDiv Go.Proofs.YtgaiaidigdennaaW.PrintWords Go.Proofs.YtgaiaidigdennaaW.PrintLast Go.Proofs.YtgaiaidigdennaaW.PrintMore
/-- A quotient of magnitudes, rounded to the even one. -/
def rneD (N D : Nat) : Nat := if 2 * (N % D) > D ∨ (2 * (N % D) = D ∧ (N / D) % 2 = 1) then N / D + 1 else N / D
def divS (x y : Int) : Int := if x = 0 then 0 else if y = 0 then (if x < 0 then -9223372036854775808 else 9223372036854775807) else satI (xneg x y) (rneD (x.natAbs * 4294967296) y.natAbs)
theorem quo_ev (hi lo by_ : Nat) (hb : by_ < 18446744073709551616) (hb1 : 1 ≤ by_) (hlo : lo < 18446744073709551616) :
    ∃ (n : Int) (over : Bool), Ev (fun k => fix_quo.f k (hi : Int) (lo : Int) (by_ : Int)) (n, over) ∧ 0 ≤ n ∧ n < 18446744073709551616 ∧ ∀ neg, satb n over neg = satI neg (rneD (hi * 18446744073709551616 + lo) by_) := by
  unfold fix_quo.f
  by_cases c : hi ≥ by_
  · have c' : (hi : Int) ≥ (by_ : Int) := by omega
    simp only [c', if_true]
    refine ⟨0, true, Ev.now _, by omega, by omega, fun neg => ?_⟩
    have hge : 18446744073709551616 ≤ (hi * 18446744073709551616 + lo) / by_ := by
      apply (Nat.le_div_iff_mul_le (by omega)).2
      have := Nat.mul_le_mul_left 18446744073709551616 c
      omega
    have hr : 18446744073709551616 ≤ rneD (hi * 18446744073709551616 + lo) by_ := by unfold rneD; split <;> omega
    unfold satb satI
    rw [if_pos (show rneD (hi * 18446744073709551616 + lo) by_ ≥ 9223372036854775808 by omega), if_pos (show rneD (hi * 18446744073709551616 + lo) by_ ≥ 9223372036854775808 by omega)]
    simp
  · have c' : ¬ (hi : Int) ≥ (by_ : Int) := by omega
    simp only [c', if_false]
    have hd := div64_ev hi lo by_ hb hlo (by omega)
    have hq : (hi * 18446744073709551616 + lo) / by_ < 18446744073709551616 := by
      apply (Nat.div_lt_iff_lt_mul (by omega)).2
      have : (hi + 1) * 18446744073709551616 ≤ by_ * 18446744073709551616 := Nat.mul_le_mul_right _ (by omega)
      omega
    have hr := Nat.mod_lt (hi * 18446744073709551616 + lo) (show by_ > 0 by omega)
    unfold rneD
    generalize (hi * 18446744073709551616 + lo) / by_ = q at *
    generalize (hi * 18446744073709551616 + lo) % by_ = r at *
    have w : IntKind.u64.wrap ((by_ : Int) - (r : Int)) = (by_ : Int) - (r : Int) := wu64 (by omega) (by omega)
    have a : Go.bits .and .u64 (q : Int) 1 = ((q % 2 : Nat) : Int) := by rw [and1 (by omega) (by omega)]; omega
    have up : ∀ neg, satb (IntKind.u64.wrap ((q : Int) + 1)) (IntKind.u64.wrap ((q : Int) + 1) == 0) neg = satI neg (q + 1) := by
      intro neg
      refine sat_of _ neg _ _ (by rw [wu64_mod]; omega) ?_
      rw [beq_iff_eq, wu64_mod]; omega
    have dn : ∀ neg, satb (q : Int) false neg = satI neg q := by
      intro neg
      refine sat_of _ neg _ _ (by omega) ⟨fun h => (by cases h), fun h => by omega⟩
    by_cases c1 : 2 * r > by_
    · rw [if_pos (.inl c1)]
      refine ⟨_, _, Ev.bind hd ?_, ?_, ?_, up⟩
      · simp only [w]; rw [if_pos (by omega)]; exact Ev.now _
      · rw [wu64_mod]; omega
      · rw [wu64_mod]; omega
    · by_cases c2 : 2 * r = by_ ∧ q % 2 = 1
      · rw [if_pos (.inr c2)]
        refine ⟨_, _, Ev.bind hd ?_, ?_, ?_, up⟩
        · simp only [w, a]; rw [if_neg (by omega), if_pos (by omega), if_pos (by omega)]; exact Ev.now _
        · rw [wu64_mod]; omega
        · rw [wu64_mod]; omega
      · rw [if_neg (by omega)]
        refine ⟨_, _, Ev.bind hd ?_, ?_, ?_, dn⟩
        · simp only [w, a]; rw [if_neg (by omega)]
          by_cases c3 : 2 * r = by_
          · rw [if_pos (by omega), if_neg (by omega)]; exact Ev.now _
          · rw [if_neg (by omega)]; exact Ev.now _
        · omega
        · omega
theorem ratio_ev (x y : Int) (hx : I64 x) (hy : I64 y) : Ev (fun k => fix_ratio.f k x y) (divS x y) := by
  have ax := natAbs_le hx
  have ay := natAbs_le hy
  unfold fix_ratio.f divS
  by_cases c : x = 0
  · simp only [c, if_true]; exact Ev.now _
  · simp only [c, if_false]
    by_cases d : y = 0
    · simp only [d, if_true]
      have := Ev.bind (signed_ev 0 true (decide (x < 0)) (by omega) (by omega)) (f := fun _ t => some t) (Ev.now _)
      have e : satb 0 true (decide (x < 0)) = if x < 0 then -9223372036854775808 else 9223372036854775807 := by
        unfold satb; by_cases h : x < 0 <;> simp [h]
      rw [← e]; exact this
    · simp only [d, if_false]
      rw [size_f hx, size_f hy]
      simp only [Option.bind_some]
      obtain ⟨n, over, h1, h2, h3, h4⟩ := quo_ev (x.natAbs / 4294967296) (x.natAbs * 4294967296 % 18446744073709551616) y.natAbs (by omega) (by omega) (by omega)
      have e1 : (x.natAbs : Int) / 4294967296 = ((x.natAbs / 4294967296 : Nat) : Int) := by omega
      have e2 : IntKind.u64.wrap ((x.natAbs : Int) * 4294967296) = ((x.natAbs * 4294967296 % 18446744073709551616 : Nat) : Int) := by rw [wu64_mod]; omega
      rw [e1, e2]
      refine Ev.bind h1 ?_
      have hN : x.natAbs / 4294967296 * 18446744073709551616 + x.natAbs * 4294967296 % 18446744073709551616 = x.natAbs * 4294967296 := by omega
      have := Ev.bind (signed_ev n over (xneg x y) h2 h3) (f := fun _ t => some t) (Ev.now _)
      rw [h4, hN] at this
      exact this
theorem div_ev (x y : Int) (hx : I64 x) (hy : I64 y) : Ev (fun k => fix_F_Div.f k x y) (divS x y) := Ev.bind (ratio_ev x y hx hy) (Ev.now _)
theorem Ratio_ev (x y : Int) (hx : I64 x) (hy : I64 y) : Ev (fun k => fix_Ratio.f k x y) (divS x y) := Ev.bind (ratio_ev x y hx hy) (Ev.now _)
/-- One round of the reference's division. -/
theorem round_ev (x : Int) (hx : I64 x) (neg : Bool) (by_ Q r b i : Nat) (hb1 : 1 ≤ by_) (hb : by_ ≤ 9223372036854775808) (hr : r < by_) (hi : i ≤ 95)
    (hbit : b = if i ≥ 32 then (x.natAbs / 2 ^ (i - 32)) % 2 else 0) (R : Int)
    (h : Ev (fun k => athanorref01_Div.l0 k x neg (by_ : Int) (((2 * Q + (if 2 * r + b ≥ by_ then 1 else 0)) % 18446744073709551616 : Nat) : Int) (decide (2 * Q + (if 2 * r + b ≥ by_ then 1 else 0) ≥ 18446744073709551616)) ((i : Int) - 1) 0 ((2 * r + b - (if 2 * r + b ≥ by_ then by_ else 0) : Nat) : Int)) R) :
    Ev (fun k => athanorref01_Div.l0 k x neg (by_ : Int) ((Q % 18446744073709551616 : Nat) : Int) (decide (Q ≥ 18446744073709551616)) (i : Int) 0 (r : Int)) R := by
  have hdb : athanorref01_double.f 0 (r : Int) = some (0, ((2 * r : Nat) : Int)) := by
    have := double_f 0 r (by omega) (by omega)
    rw [show ((0 : Nat) : Int) = 0 from rfl] at this
    rw [this]; congr 2 <;> omega
  have hb2 : b < 2 := by rw [hbit]; split <;> omega
  have hj4 : Ev (fun k => athanorref01_Div.j4 k x neg (by_ : Int) ((2 * Q % 18446744073709551616 : Nat) : Int) (decide (2 * Q + (if 2 * r + b ≥ by_ then 1 else 0) ≥ 18446744073709551616)) (i : Int) (decide (((2 * r + b : Nat) : Int) ≥ (by_ : Int))) 0 ((2 * r + b : Nat) : Int)) R := by
    refine Ev.step (fun k => ?_) h
    simp only [athanorref01_Div.j4]
    by_cases c : 2 * r + b ≥ by_
    · have c' : ((2 * r + b : Nat) : Int) ≥ (by_ : Int) := by omega
      simp only [c, c', decide_true, if_true]
      rw [if_neg (by omega), or1 (by omega) (by omega) (by omega) 1 (by omega) (by omega), w64 (by omega) (by omega), wu64 (x := ((2 * r + b : Nat) : Int) - (by_ : Int)) (by omega) (by omega)]
      congr 1 <;> omega
    · have c' : ¬ ((2 * r + b : Nat) : Int) ≥ (by_ : Int) := by omega
      simp only [c, c', decide_false, Bool.false_eq_true, if_false, Nat.sub_zero, Nat.add_zero]
      rw [w64 (by omega) (by omega)]
  have hj3 : Ev (fun k => athanorref01_Div.j3 k x neg (by_ : Int) ((Q % 18446744073709551616 : Nat) : Int) (decide (2 * Q + (if 2 * r + b ≥ by_ then 1 else 0) ≥ 18446744073709551616)) (i : Int) 0 ((2 * r + b : Nat) : Int)) R := by
    refine Ev.step (fun k => ?_) hj4
    simp only [athanorref01_Div.j3]
    rw [if_neg (by omega), wu64_mod]
    congr 1; omega
  have hj2 : Ev (fun k => athanorref01_Div.j2 k x neg (by_ : Int) ((Q % 18446744073709551616 : Nat) : Int) (decide (Q ≥ 18446744073709551616)) (i : Int) 0 ((2 * r + b : Nat) : Int)) R := by
    refine Ev.step (fun k => ?_) hj3
    simp only [athanorref01_Div.j2]
    by_cases c : ((Q % 18446744073709551616 : Nat) : Int) ≥ 9223372036854775808
    · rw [if_pos c]; congr 1; rw [eq_comm, decide_eq_true_eq]; omega
    · rw [if_neg c]; congr 1; rw [decide_eq_decide]; split <;> omega
  have hj1 : ∀ e : Bool, (e = true ↔ b = 1) → Ev (fun k => athanorref01_Div.j1 k x neg (by_ : Int) ((Q % 18446744073709551616 : Nat) : Int) (decide (Q ≥ 18446744073709551616)) (i : Int) e 0 ((2 * r : Nat) : Int)) R := by
    intro e he
    refine Ev.step (fun k => ?_) hj2
    simp only [athanorref01_Div.j1]
    by_cases c : b = 1
    · rw [if_pos (he.2 c), or1 (by omega) (by omega) (by omega) 1 (by omega) (by omega)]; congr 1; omega
    · rw [if_neg (fun h => c (he.1 h))]; congr 1; omega
  by_cases c : i ≥ 32
  · rw [if_pos c] at hbit
    refine Ev.step (fun k => ?_) (hj1 (((b : Nat) : Int) == 1) (by rw [beq_iff_eq]; omega))
    simp only [athanorref01_Div.l0]
    rw [if_pos (by omega), hdb]
    simp only [Option.bind_some]
    rw [if_pos (by omega), refSize_f hx]
    simp only [Option.bind_some]
    have e : IntKind.u64.wrap (wrap64 ((i : Int) - 32)) = ((i - 32 : Nat) : Int) := by rw [w64 (by omega) (by omega), wu64 (by omega) (by omega)]; omega
    have ax := natAbs_le hx
    have hlt := Nat.div_le_self x.natAbs (2 ^ (i - 32))
    rw [e, if_pos (by omega), shr_nat _ _ (by omega)]
    generalize x.natAbs / 2 ^ (i - 32) = t at hlt hbit ⊢
    rw [and1 (by omega) (by omega)]
    congr 2
    rw [hbit]; omega
  · rw [if_neg c] at hbit
    refine Ev.step (fun k => ?_) (hj1 false (by simp; omega))
    simp only [athanorref01_Div.l0]
    rw [if_pos (by omega), hdb]
    simp only [Option.bind_some]
    rw [if_neg (by omega)]
theorem split2 {V by_ b : Nat} (h1 : 1 ≤ by_) (hb : b < 2) : (2 * V + b) / by_ = 2 * (V / by_) + (if 2 * (V % by_) + b ≥ by_ then 1 else 0) ∧ (2 * V + b) % by_ = 2 * (V % by_) + b - (if 2 * (V % by_) + b ≥ by_ then by_ else 0) := by
  have hm := Nat.div_add_mod V by_
  have hl := Nat.mod_lt V (show by_ > 0 by omega)
  generalize V / by_ = Q at *
  generalize V % by_ = r at *
  have e : 2 * V + b = by_ * (2 * Q) + (2 * r + b) := by
    have : by_ * (2 * Q) = 2 * (by_ * Q) := by rw [← Nat.mul_assoc, Nat.mul_comm by_ 2, Nat.mul_assoc]
    omega
  by_cases c : 2 * r + b ≥ by_
  · rw [if_pos c, if_pos c]
    have e2 : 2 * V + b = by_ * (2 * Q + 1) + (2 * r + b - by_) := by rw [e, Nat.mul_add, Nat.mul_one]; omega
    rw [e2]
    exact ⟨by rw [Nat.mul_add_div (by omega), Nat.div_eq_of_lt (by omega), Nat.add_zero], by rw [Nat.mul_add_mod, Nat.mod_eq_of_lt (by omega)]⟩
  · rw [if_neg c, if_neg c, e]
    exact ⟨by rw [Nat.mul_add_div (by omega), Nat.div_eq_of_lt (by omega)], by rw [Nat.mul_add_mod, Nat.mod_eq_of_lt (by omega)]; rfl⟩
theorem top_bit (m i : Nat) : (m * 4294967296) / 2 ^ i = 2 * ((m * 4294967296) / 2 ^ (i + 1)) + (if i ≥ 32 then (m / 2 ^ (i - 32)) % 2 else 0) := by
  have h := bit_step (m * 4294967296) i
  have e : (m * 4294967296) / 2 ^ i % 2 = if i ≥ 32 then (m / 2 ^ (i - 32)) % 2 else 0 := by
    by_cases c : i ≥ 32
    · rw [if_pos c]
      obtain ⟨j, rfl⟩ : ∃ j, i = j + 32 := ⟨i - 32, by omega⟩
      rw [Nat.pow_add, show (2 : Nat) ^ 32 = 4294967296 from rfl, Nat.mul_div_mul_right _ _ (by omega), Nat.add_sub_cancel]
    · rw [if_neg c]
      have e1 : (4294967296 : Nat) = 2 * 2 ^ (31 - i) * 2 ^ i := by
        rw [Nat.mul_assoc, ← Nat.pow_add, show 31 - i + i = 31 by omega]
      rw [e1, ← Nat.mul_assoc, Nat.mul_div_cancel _ (Nat.two_pow_pos i), ← Nat.mul_assoc, Nat.mul_comm m 2, Nat.mul_assoc]
      exact Nat.mul_mod_right 2 _
  rw [← e]; exact h
theorem refDivLoop (x : Int) (hx : I64 x) (neg : Bool) (by_ : Nat) (hb1 : 1 ≤ by_) (hb : by_ ≤ 9223372036854775808) :
    ∀ n : Nat, n ≤ 96 → ∀ V, V = (x.natAbs * 4294967296) / 2 ^ n →
    Ev (fun k => athanorref01_Div.l0 k x neg (by_ : Int) (((V / by_) % 18446744073709551616 : Nat) : Int) (decide (V / by_ ≥ 18446744073709551616)) ((n : Int) - 1) 0 ((V % by_ : Nat) : Int)) (satI neg (rneD (x.natAbs * 4294967296) by_)) := by
  intro n
  induction n with
  | zero =>
    intro _ V hV
    rw [Nat.pow_zero, Nat.div_one] at hV
    have hr := Nat.mod_lt V (show by_ > 0 by omega)
    rw [← hV]
    unfold rneD
    generalize V / by_ = q at *
    generalize V % by_ = r at *
    have hdb : athanorref01_double.f 0 (r : Int) = some (0, ((2 * r : Nat) : Int)) := by
      have := double_f 0 r (by omega) (by omega)
      rw [show ((0 : Nat) : Int) = 0 from rfl] at this
      rw [this]; congr 2 <;> omega
    have hs : ∀ (n : Int) (o : Bool), 0 ≤ n → n < 18446744073709551616 → Ev (fun k => (athanorref01_Held.f k n o neg).bind fun t => some t) (satb n o neg) := fun n o h0 h1 => Ev.bind (held_ev n o _ h0 h1) (Ev.now _)
    have hj5 : ∀ up : Bool, (up = true ↔ (2 * r > by_ ∨ (2 * r = by_ ∧ q % 2 = 1))) → Ev (fun k => athanorref01_Div.j5 k neg ((q % 18446744073709551616 : Nat) : Int) (decide (q ≥ 18446744073709551616)) up) (satI neg (if 2 * r > by_ ∨ (2 * r = by_ ∧ q % 2 = 1) then q + 1 else q)) := by
      intro up hu
      cases up with
      | true =>
        rw [if_pos (hu.1 rfl)]
        by_cases c : IntKind.u64.wrap (((q % 18446744073709551616 : Nat) : Int) + 1) = 0
        · have := hs 0 true (by omega) (by omega)
          rw [sat_of (q + 1) neg 0 true (by rw [wu64_mod] at c; omega) ⟨fun _ => by rw [wu64_mod] at c; omega, fun _ => rfl⟩] at this
          exact Ev.step (fun k => by simp only [athanorref01_Div.j5, if_true, c]) this
        · have := hs (IntKind.u64.wrap (((q % 18446744073709551616 : Nat) : Int) + 1)) (decide (q ≥ 18446744073709551616)) (by rw [wu64_mod]; omega) (by rw [wu64_mod]; omega)
          rw [sat_of (q + 1) neg _ _ (by rw [wu64_mod]; omega) (by rw [decide_eq_true_eq]; rw [wu64_mod] at c; omega)] at this
          exact Ev.step (fun k => by simp only [athanorref01_Div.j5, if_true, c, if_false]) this
      | false =>
        rw [if_neg (fun h => by have := hu.2 h; cases this)]
        have := hs ((q % 18446744073709551616 : Nat) : Int) (decide (q ≥ 18446744073709551616)) (by omega) (by omega)
        rw [sat_of q neg _ _ (by omega) (by rw [decide_eq_true_eq])] at this
        exact Ev.step (fun k => by simp only [athanorref01_Div.j5, Bool.false_eq_true, if_false]) this
    by_cases c1 : 2 * r > by_
    · refine Ev.step (fun k => ?_) (hj5 true ⟨fun _ => .inl c1, fun _ => rfl⟩)
      simp only [athanorref01_Div.l0]
      rw [if_neg (by omega), hdb]
      simp only [Option.bind_some]
      rw [if_neg (by omega), if_pos (by omega)]
    · by_cases c2 : 2 * r = by_
      · refine Ev.step (fun k => ?_) (hj5 (((q % 18446744073709551616 : Nat) : Int).tmod 2 == 1) (by rw [beq_iff_eq, Int.tmod_eq_emod_of_nonneg (by omega)]; omega))
        simp only [athanorref01_Div.l0]
        rw [if_neg (by omega), hdb]
        simp only [Option.bind_some]
        rw [if_neg (by omega), if_neg (by omega), if_pos (by omega)]
      · refine Ev.step (fun k => ?_) (hj5 false ⟨fun h => (by cases h), fun h => by omega⟩)
        simp only [athanorref01_Div.l0]
        rw [if_neg (by omega), hdb]
        simp only [Option.bind_some]
        rw [if_neg (by omega), if_neg (by omega), if_neg (by omega)]
  | succ i ih =>
    intro hn V hV
    obtain ⟨b, hbd⟩ : ∃ b, b = if i ≥ 32 then (x.natAbs / 2 ^ (i - 32)) % 2 else 0 := ⟨_, rfl⟩
    have hb2 : b < 2 := by rw [hbd]; split <;> omega
    have ht := top_bit x.natAbs i
    rw [← hV, ← hbd] at ht
    have hi := ih (by omega) (2 * V + b) ht.symm
    obtain ⟨s1, s2⟩ := split2 (V := V) (b := b) hb1 hb2
    rw [s1, s2] at hi
    rw [show (((i + 1 : Nat) : Int) - 1) = (i : Int) by omega]
    exact round_ev x hx neg by_ (V / by_) (V % by_) b i hb1 hb (Nat.mod_lt _ (by omega)) (by omega) hbd _ hi
theorem refDiv_ev (x y : Int) (hx : I64 x) (hy : I64 y) : Ev (fun k => athanorref01_Div.f k x y) (divS x y) := by
  have ax := natAbs_le hx
  have ay := natAbs_le hy
  unfold athanorref01_Div.f divS
  by_cases c : x = 0
  · simp only [c, if_true]; exact Ev.now _
  · simp only [c, if_false]
    by_cases d : y = 0
    · simp only [d, if_true]
      have := Ev.bind (held_ev 0 true (decide (x < 0)) (by omega) (by omega)) (f := fun _ t => some t) (Ev.now _)
      have e : satb 0 true (decide (x < 0)) = if x < 0 then -9223372036854775808 else 9223372036854775807 := by
        unfold satb; by_cases h : x < 0 <;> simp [h]
      rw [← e]; exact this
    · simp only [d, if_false]
      rw [refSize_f hy]
      simp only [Option.bind_some]
      have := refDivLoop x hx (xneg x y) y.natAbs (by omega) ay 96 (by omega) 0 (by rw [Nat.div_eq_of_lt (by omega)])
      simpa [xneg] using this
/-- Held within bounds. -/
def clampI (z : Int) : Int := if z < -9223372036854775808 then -9223372036854775808 else if z > 9223372036854775807 then 9223372036854775807 else z
theorem clampI_I64 (z : Int) : I64 (clampI z) := by unfold clampI I64; split <;> (try split) <;> omega
theorem satI_I64 (neg : Bool) (N : Nat) : I64 (satI neg N) := by unfold satI I64; split <;> split <;> omega
theorem mulS_I64 (x y : Int) : I64 (mulS x y) := satI_I64 _ _
theorem divS_I64 (x y : Int) : I64 (divS x y) := by
  unfold divS
  split
  · unfold I64; omega
  · split
    · unfold I64; split <;> omega
    · exact satI_I64 _ _
def addS (x y : Int) : Int := clampI (x + y)
def subS (x y : Int) : Int := clampI (x - y)
theorem satb_over (neg : Bool) : satb 0 true neg = if neg = true then -9223372036854775808 else 9223372036854775807 := by cases neg <;> rfl
theorem add_ev (x y : Int) (hx : I64 x) (hy : I64 y) : Ev (fun k => fix_F_Add.f k x y) (addS x y) := by
  unfold I64 at hx hy
  unfold fix_F_Add.f addS clampI
  have hs := Ev.bind (signed_ev 0 true (decide (x < 0)) (by omega) (by omega)) (f := fun _ t => some t) (Ev.now _)
  rw [satb_over] at hs
  by_cases c1 : ((decide (x < 0)) == (decide (y < 0))) = true
  · simp only [c1, if_true]
    by_cases c2 : ((decide ((wrap64 (x + y)) < 0)) != (decide (x < 0))) = true
    · simp only [c2, if_true]
      have e : (if decide (x < 0) = true then -9223372036854775808 else (9223372036854775807 : Int)) = (if x + y < -9223372036854775808 then -9223372036854775808 else if x + y > 9223372036854775807 then 9223372036854775807 else x + y) := by
        simp only [bne_iff_ne, beq_iff_eq, ne_eq, decide_eq_decide, decide_eq_true_eq] at c1 c2 ⊢
        unfold wrap64 at c2
        by_cases h : x < 0
        · rw [if_pos h, if_pos (by omega)]
        · rw [if_neg h, if_neg (by omega), if_pos (by omega)]
      rw [← e]; exact hs
    · simp only [c2]
      have e : wrap64 (x + y) = (if x + y < -9223372036854775808 then -9223372036854775808 else if x + y > 9223372036854775807 then 9223372036854775807 else x + y) := by
        simp only [bne_iff_ne, beq_iff_eq, ne_eq, decide_eq_decide, Classical.not_not] at c1 c2
        unfold wrap64 at c2 ⊢
        rw [if_neg (by omega), if_neg (by omega)]; omega
      rw [← e]; exact Ev.now _
  · simp only [c1]
    have e : wrap64 (x + y) = (if x + y < -9223372036854775808 then -9223372036854775808 else if x + y > 9223372036854775807 then 9223372036854775807 else x + y) := by
      simp only [beq_iff_eq, decide_eq_decide] at c1
      unfold wrap64
      rw [if_neg (by omega), if_neg (by omega)]; omega
    rw [← e]; exact Ev.now _
theorem refAdd_ev (x y : Int) (hx : I64 x) (hy : I64 y) : Ev (fun k => athanorref01_Add.f k x y) (addS x y) := by
  unfold I64 at hx hy
  unfold athanorref01_Add.f addS clampI
  by_cases c : x > 0
  · simp only [c, if_true]
    refine Ev.step (fun k => ?_) (Ev.now _)
    simp only [athanorref01_Add.j0]
    by_cases d : y > 9223372036854775807 - x
    · rw [w64 (by omega) (by omega), if_pos (by simpa using d), if_neg (by omega), if_pos (by omega)]
    · rw [w64 (x := 9223372036854775807 - x) (by omega) (by omega), if_neg (by simpa using d), if_neg (by omega), if_neg (by omega), if_neg (by omega), w64 (by omega) (by omega)]
  · simp only [c, if_false]
    refine Ev.step (fun k => ?_) (Ev.now _)
    simp only [athanorref01_Add.j0, Bool.false_eq_true, if_false]
    by_cases d : x < 0
    · rw [if_pos d, w64 (x := -9223372036854775808 - x) (by omega) (by omega)]
      by_cases e : y < -9223372036854775808 - x
      · rw [if_pos e, if_pos (by omega)]
      · rw [if_neg e, if_neg (by omega), if_neg (by omega), w64 (by omega) (by omega)]
    · rw [if_neg d, if_neg (by omega), if_neg (by omega), w64 (by omega) (by omega)]
theorem neg_f (x : Int) (hx : I64 x) : fix_F_Neg.f x = some (clampI (-x)) := by
  unfold I64 at hx; unfold fix_F_Neg.f clampI
  by_cases c : x = -9223372036854775808
  · rw [if_pos c, if_neg (by omega), if_pos (by omega)]
  · rw [if_neg c, if_neg (by omega), if_neg (by omega), w64 (by omega) (by omega)]
end Go.Proofs.Ytgaiaidigdennaa.AidQuo
