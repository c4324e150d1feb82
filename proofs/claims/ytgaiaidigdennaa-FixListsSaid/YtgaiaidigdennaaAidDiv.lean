/- What the printed bits.Div64 answers: the quotient and the rest of two words by one. Conditions: the high word is below the divisor. -/
import Derived.Test.YtgaiaidigdennaaPFixx
import Derived.Test.YtgaiaidigdennaaAidFix
set_option linter.unusedSimpArgs false
set_option linter.unusedVariables false
namespace Go.Proofs.Ytgaiaidigdennaa.AidDiv
open Go.RowKit Go.Proofs.Ytgaiaidigdennaa.PFix Go.Proofs.Ytgaiaidigdennaa.Aid Go.Proofs.Ytgaiaidigdennaa.AidFix Go.Proofs.YtgaiaidigdennaaW.PrintWords Go.Proofs.YtgaiaidigdennaaW.PrintLast Go.Proofs.YtgaiaidigdennaaW.PrintMore
theorem len_tab : ∃ T : ByteArray, (∀ k x0 x2, bits_Len64.j0 (k + 1) x0 x2 = if x0 ≥ 65536 then (if (x0 / 65536) ≥ 256 then (if 0 ≤ (((x0 / 65536) / 256) % 256) then (if (((x0 / 65536) / 256) % 256) < 256 then (some (wrap64 ((wrap64 ((wrap64 (x2 + 16)) + 8)) + (wrap64 (bt T (((x0 / 65536) / 256) % 256)))))) else (none)) else (none)) else (if 0 ≤ ((x0 / 65536) % 256) then (if ((x0 / 65536) % 256) < 256 then (some (wrap64 ((wrap64 (x2 + 16)) + (wrap64 (bt T ((x0 / 65536) % 256)))))) else (none)) else (none))) else (if x0 ≥ 256 then (if 0 ≤ ((x0 / 256) % 256) then (if ((x0 / 256) % 256) < 256 then (some (wrap64 ((wrap64 (x2 + 8)) + (wrap64 (bt T ((x0 / 256) % 256)))))) else (none)) else (none)) else (if 0 ≤ ((x0) % 256) then (if ((x0) % 256) < 256 then (some (wrap64 (x2 + (wrap64 (bt T ((x0) % 256)))))) else (none)) else (none))))
    ∧ ∀ c : Fin 256, 1 ≤ c.val → 1 ≤ (bt T (c.val : Int)).toNat ∧ (bt T (c.val : Int)).toNat ≤ 8 ∧ 2 ^ ((bt T (c.val : Int)).toNat - 1) ≤ c.val ∧ c.val < 2 ^ (bt T (c.val : Int)).toNat ∧ bt T (c.val : Int) = ((bt T (c.val : Int)).toNat : Int) :=
  ⟨_, fun _ _ _ => rfl, by decide +kernel⟩
theorem len_at (T : ByteArray) (hT : ∀ c : Fin 256, 1 ≤ c.val → 1 ≤ (bt T (c.val : Int)).toNat ∧ (bt T (c.val : Int)).toNat ≤ 8 ∧ 2 ^ ((bt T (c.val : Int)).toNat - 1) ≤ c.val ∧ c.val < 2 ^ (bt T (c.val : Int)).toNat ∧ bt T (c.val : Int) = ((bt T (c.val : Int)).toNat : Int))
    (x j : Nat) (h1 : 1 ≤ x / 2 ^ j) (h2 : x / 2 ^ j < 256) : ∃ n : Nat, bt T ((x / 2 ^ j : Nat) : Int) = (n : Int) ∧ 1 ≤ n ∧ n ≤ 8 ∧ 2 ^ (j + n - 1) ≤ x ∧ x < 2 ^ (j + n) := by
  obtain ⟨g1, g2, g3, g4, g5⟩ := hT ⟨x / 2 ^ j, h2⟩ h1
  dsimp only at g1 g2 g3 g4 g5
  refine ⟨_, g5, g1, g2, ?_, ?_⟩
  · rw [show j + (bt T ((x / 2 ^ j : Nat) : Int)).toNat - 1 = ((bt T ((x / 2 ^ j : Nat) : Int)).toNat - 1) + j by omega, Nat.pow_add]
    exact (Nat.le_div_iff_mul_le (Nat.two_pow_pos j)).1 g3
  · rw [Nat.add_comm j, Nat.pow_add]
    exact (Nat.div_lt_iff_lt_mul (Nat.two_pow_pos j)).1 g4
theorem w3 (a n : Nat) (ha : a ≤ 32) (hn : n ≤ 8) : wrap64 (wrap64 (wrap64 ((a : Int) + 16) + 8) + wrap64 (n : Int)) = ((a + (24 + n) : Nat) : Int) := by unfold wrap64; omega
theorem w2 (a n : Nat) (ha : a ≤ 32) (hn : n ≤ 8) : wrap64 (wrap64 ((a : Int) + 16) + wrap64 (n : Int)) = ((a + (16 + n) : Nat) : Int) := by unfold wrap64; omega
theorem w1 (a n : Nat) (ha : a ≤ 32) (hn : n ≤ 8) : wrap64 (wrap64 ((a : Int) + 8) + wrap64 (n : Int)) = ((a + (8 + n) : Nat) : Int) := by unfold wrap64; omega
theorem w0 (a n : Nat) (ha : a ≤ 32) (hn : n ≤ 8) : wrap64 ((a : Int) + wrap64 (n : Int)) = ((a + n : Nat) : Int) := by unfold wrap64; omega
theorem of_one {g : Nat → Option Int} {r : Int} (h : ∀ k, g (k + 1) = some r) : Ev g r := Ev.step h (Ev.now r)
theorem lenj_of (g : Nat → Int → Int → Option Int) (T : ByteArray) (hj : ∀ k x0 x2, g (k + 1) x0 x2 = if x0 ≥ 65536 then (if (x0 / 65536) ≥ 256 then (if 0 ≤ (((x0 / 65536) / 256) % 256) then (if (((x0 / 65536) / 256) % 256) < 256 then (some (wrap64 ((wrap64 ((wrap64 (x2 + 16)) + 8)) + (wrap64 (bt T (((x0 / 65536) / 256) % 256)))))) else (none)) else (none)) else (if 0 ≤ ((x0 / 65536) % 256) then (if ((x0 / 65536) % 256) < 256 then (some (wrap64 ((wrap64 (x2 + 16)) + (wrap64 (bt T ((x0 / 65536) % 256)))))) else (none)) else (none))) else (if x0 ≥ 256 then (if 0 ≤ ((x0 / 256) % 256) then (if ((x0 / 256) % 256) < 256 then (some (wrap64 ((wrap64 (x2 + 8)) + (wrap64 (bt T ((x0 / 256) % 256)))))) else (none)) else (none)) else (if 0 ≤ ((x0) % 256) then (if ((x0) % 256) < 256 then (some (wrap64 (x2 + (wrap64 (bt T ((x0) % 256)))))) else (none)) else (none))))
    (hT : ∀ c : Fin 256, 1 ≤ c.val → 1 ≤ (bt T (c.val : Int)).toNat ∧ (bt T (c.val : Int)).toNat ≤ 8 ∧ 2 ^ ((bt T (c.val : Int)).toNat - 1) ≤ c.val ∧ c.val < 2 ^ (bt T (c.val : Int)).toNat ∧ bt T (c.val : Int) = ((bt T (c.val : Int)).toNat : Int))
    (x a : Nat) (hx1 : 1 ≤ x) (hx : x < 4294967296) (ha : a ≤ 32) : ∃ n : Nat, Ev (fun k => g k (x : Int) (a : Int)) (((a + n : Nat) : Int)) ∧ 1 ≤ n ∧ n ≤ 32 ∧ 2 ^ (n - 1) ≤ x ∧ x < 2 ^ n := by
  by_cases c1 : x ≥ 65536
  · by_cases c2 : x / 65536 ≥ 256
    · obtain ⟨n, e, n1, n2, n3, n4⟩ := len_at T hT x 24 (by omega) (by omega)
      refine ⟨24 + n, of_one (fun k => ?_), by omega, by omega, n3, n4⟩
      rw [hj, if_pos (by omega), if_pos (by omega), if_pos (by omega), if_pos (by omega), show ((x : Int) / 65536 / 256 % 256) = ((x / 2 ^ 24 : Nat) : Int) by omega, e]
      exact congrArg some (w3 a n ha n2)
    · obtain ⟨n, e, n1, n2, n3, n4⟩ := len_at T hT x 16 (by omega) (by omega)
      refine ⟨16 + n, of_one (fun k => ?_), by omega, by omega, n3, n4⟩
      rw [hj, if_pos (by omega), if_neg (by omega), if_pos (by omega), if_pos (by omega), show ((x : Int) / 65536 % 256) = ((x / 2 ^ 16 : Nat) : Int) by omega, e]
      exact congrArg some (w2 a n ha n2)
  · by_cases c2 : x ≥ 256
    · obtain ⟨n, e, n1, n2, n3, n4⟩ := len_at T hT x 8 (by omega) (by omega)
      refine ⟨8 + n, of_one (fun k => ?_), by omega, by omega, n3, n4⟩
      rw [hj, if_neg (by omega), if_pos (by omega), if_pos (by omega), if_pos (by omega), show ((x : Int) / 256 % 256) = ((x / 2 ^ 8 : Nat) : Int) by omega, e]
      exact congrArg some (w1 a n ha n2)
    · obtain ⟨n, e, n1, n2, n3, n4⟩ := len_at T hT x 0 (by simp; omega) (by simp; omega)
      refine ⟨n, of_one (fun k => ?_), by omega, by omega, by simpa using n3, by simpa using n4⟩
      rw [hj, if_neg (by omega), if_neg (by omega), if_pos (by omega), if_pos (by omega), show ((x : Int) % 256) = ((x / 2 ^ 0 : Nat) : Int) by simp; omega, e]
      exact congrArg some (w0 a n ha n2)
theorem lenj (x a : Nat) (hx1 : 1 ≤ x) (hx : x < 4294967296) (ha : a ≤ 32) : ∃ n : Nat, Ev (fun k => bits_Len64.j0 k (x : Int) (a : Int)) (((a + n : Nat) : Int)) ∧ 1 ≤ n ∧ n ≤ 32 ∧ 2 ^ (n - 1) ≤ x ∧ x < 2 ^ n := by
  obtain ⟨T, hj, hT⟩ := len_tab
  exact lenj_of bits_Len64.j0 T hj hT x a hx1 hx ha
theorem lz_ev (y : Nat) (h1 : 1 ≤ y) (h2 : y < 18446744073709551616) : ∃ s : Nat, Ev (fun k => bits_LeadingZeros64.f k (y : Int)) (s : Int) ∧ s ≤ 63 ∧ 9223372036854775808 ≤ y * 2 ^ s ∧ y * 2 ^ s < 18446744073709551616 := by
  have key : ∃ n : Nat, Ev (fun k => bits_Len64.f k (y : Int)) (n : Int) ∧ 1 ≤ n ∧ n ≤ 64 ∧ 2 ^ (n - 1) ≤ y ∧ y < 2 ^ n := by
    unfold bits_Len64.f
    by_cases c : (y : Int) ≥ 4294967296
    · obtain ⟨n, e, n1, n2, n3, n4⟩ := lenj (y / 4294967296) 32 (by omega) (by omega) (by omega)
      refine ⟨32 + n, ?_, by omega, by omega, ?_, ?_⟩
      · simp only [c, if_true]
        rw [show (y : Int) / 4294967296 = ((y / 4294967296 : Nat) : Int) by omega]; exact e
      · rw [show 32 + n - 1 = (n - 1) + 32 by omega, Nat.pow_add]
        exact (Nat.le_div_iff_mul_le (Nat.two_pow_pos 32)).1 n3
      · rw [Nat.add_comm, Nat.pow_add]
        exact (Nat.div_lt_iff_lt_mul (Nat.two_pow_pos 32)).1 n4
    · obtain ⟨n, e, n1, n2, n3, n4⟩ := lenj y 0 h1 (by omega) (by omega)
      refine ⟨n, ?_, by omega, by omega, n3, n4⟩
      simp only [c, if_false]
      simpa using e
  obtain ⟨n, e, n1, n2, n3, n4⟩ := key
  have p1 : 2 ^ (n - 1) * 2 ^ (64 - n) = 9223372036854775808 := by rw [← Nat.pow_add, show n - 1 + (64 - n) = 63 by omega]
  have p2 : 2 ^ n * 2 ^ (64 - n) = 18446744073709551616 := by rw [← Nat.pow_add, show n + (64 - n) = 64 by omega]
  refine ⟨64 - n, ?_, by omega, ?_, ?_⟩
  · unfold bits_LeadingZeros64.f
    refine Ev.bind e ?_
    rw [show wrap64 (64 - (n : Int)) = ((64 - n : Nat) : Int) by unfold wrap64; omega]
    exact Ev.now _
  · rw [← p1]; exact Nat.mul_le_mul_right _ n3
  · rw [← p2]; exact (Nat.mul_lt_mul_right (Nat.two_pow_pos _)).2 n4
/-- One digit: the guess comes down to the quotient. -/
theorem guess_hi {y h l u d q qh rh : Nat} (hy : y = h * 4294967296 + l) (hh : 2147483648 ≤ h) (hh2 : h < 4294967296) (hl : l < 4294967296) (hu : u < y) (hd : d < 4294967296)
    (hq : q = (u * 4294967296 + d) / y) (he : qh * h + rh = u) :
    qh ≤ 4294967297 ∧ qh * l ≤ 18446744073709551615 ∧ q < 4294967296 ∧
    ((qh ≥ 4294967296 ∨ qh * l > 4294967296 * rh + d) → q < qh) ∧ (¬ (qh ≥ 4294967296 ∨ qh * l > 4294967296 * rh + d) → qh ≤ q) ∧ (rh ≥ 4294967296 → qh ≤ q) := by
  have hy0 : 0 < y := by omega
  have e1 : qh * y = (qh * h) * 4294967296 + qh * l := by rw [hy, Nat.mul_add, Nat.mul_assoc]
  have hqB : q < 4294967296 := by rw [hq]; apply (Nat.div_lt_iff_lt_mul hy0).2; omega
  have b1 : qh ≤ 4294967297 := by
    apply Nat.le_of_lt_succ
    apply Nat.lt_of_not_le; intro hge
    have := Nat.mul_le_mul_right h hge
    omega
  have b2 : qh * l ≤ 4294967297 * 4294967295 := Nat.mul_le_mul b1 (by omega)
  have lt : qh * y > u * 4294967296 + d → q < qh := fun h => by rw [hq]; exact (Nat.div_lt_iff_lt_mul hy0).2 h
  have le : qh * y ≤ u * 4294967296 + d → qh ≤ q := fun h => by rw [hq]; exact (Nat.le_div_iff_mul_le hy0).2 h
  refine ⟨b1, by omega, hqB, ?_, ?_, ?_⟩
  · rintro (c | c)
    · omega
    · exact lt (by omega)
  · intro c
    exact le (by omega)
  · intro c
    have hB : qh < 4294967296 := by
      apply Nat.lt_of_not_le; intro hge
      have := Nat.mul_le_mul_right h hge
      omega
    have : qh * l ≤ 4294967295 * 4294967295 := Nat.mul_le_mul (by omega) (by omega)
    exact le (by omega)
theorem step_down {h rh u qh : Nat} (he : qh * h + rh = u) (h1 : 1 ≤ qh) : (qh - 1) * h + (rh + h) = u := by
  obtain ⟨m, rfl⟩ : ∃ m, qh = m + 1 := ⟨qh - 1, by omega⟩
  rw [Nat.add_mul, Nat.one_mul] at he
  simp only [Nat.add_sub_cancel]; omega
theorem tests {qh l rh d : Nat} (b1 : qh ≤ 4294967297) (b2 : qh * l ≤ 18446744073709551615) (hr : rh < 4294967296) (hd : d < 4294967296) :
    (IntKind.u64.wrap ((qh : Int) * (l : Int)) > IntKind.u64.wrap (IntKind.u64.wrap (4294967296 * (rh : Int)) + (d : Int))) ↔ qh * l > 4294967296 * rh + d := by
  have e : (qh : Int) * (l : Int) = ((qh * l : Nat) : Int) := by simp
  rw [e, wu64 (x := ((qh * l : Nat) : Int)) (by omega) (by omega), wu64 (x := 4294967296 * (rh : Int)) (by omega) (by omega), wu64 (by omega) (by omega)]
  omega
theorem digit0 (y s h l u d z q : Nat) (hy : y = h * 4294967296 + l) (hh : 2147483648 ≤ h) (hh2 : h < 4294967296) (hl : l < 4294967296) (hu : u < y) (hd : d < 4294967296)
    (hq : q = (u * 4294967296 + d) / y) (R : Int × Int) (hR : Ev (fun k => bits_Div64.j2 k (y : Int) (s : Int) (h : Int) (l : Int) (u : Int) (d : Int) (z : Int) (q : Int)) R) :
    ∀ (n qh rh : Nat), qh * h + rh = u → q ≤ qh → qh ≤ q + n → rh < 4294967296 →
      Ev (fun k => bits_Div64.l0 k (y : Int) (s : Int) (h : Int) (l : Int) (u : Int) (d : Int) (z : Int) (qh : Int) (rh : Int)) R := by
  intro n
  induction n with
  | zero =>
    intro qh rh he h1 h2 h3
    obtain ⟨b1, b2, b3, t1, t2, t3⟩ := guess_hi hy hh hh2 hl hu hd hq he
    have hc : ¬ (qh ≥ 4294967296 ∨ qh * l > 4294967296 * rh + d) := fun h => by have := t1 h; omega
    have hn : ¬ (IntKind.u64.wrap ((qh : Int) * (l : Int)) > IntKind.u64.wrap (IntKind.u64.wrap (4294967296 * (rh : Int)) + (d : Int))) := fun h => hc (.inr ((tests b1 b2 h3 hd).1 h))
    obtain rfl : qh = q := by omega
    refine Ev.step (f := fun k => bits_Div64.j1 k (y : Int) (s : Int) (h : Int) (l : Int) (u : Int) (d : Int) (z : Int) (qh : Int) (rh : Int) false) (fun k => ?_) (Ev.step (fun k => ?_) hR)
    · simp only [bits_Div64.l0]; rw [if_neg (by omega), decide_eq_false hn]
    · simp only [bits_Div64.j1, Bool.false_eq_true, if_false]
  | succ n ih =>
    intro qh rh he h1 h2 h3
    obtain ⟨b1, b2, b3, t1, t2, t3⟩ := guess_hi hy hh hh2 hl hu hd hq he
    by_cases hc : qh ≥ 4294967296 ∨ qh * l > 4294967296 * rh + d
    · have hgt := t1 hc
      have hs := step_down he (show 1 ≤ qh by omega)
      obtain ⟨b1', b2', b3', t1', t2', t3'⟩ := guess_hi hy hh hh2 hl hu hd hq hs
      have eq1 : IntKind.u64.wrap ((qh : Int) - 1) = ((qh - 1 : Nat) : Int) := by rw [wu64 (by omega) (by omega)]; omega
      have er : IntKind.u64.wrap ((rh : Int) + (h : Int)) = ((rh + h : Nat) : Int) := by rw [wu64 (by omega) (by omega)]; omega
      refine Ev.step (f := fun k => bits_Div64.j1 k (y : Int) (s : Int) (h : Int) (l : Int) (u : Int) (d : Int) (z : Int) (qh : Int) (rh : Int) true) (fun k => ?_) ?_
      · simp only [bits_Div64.l0]
        by_cases c1 : (qh : Int) ≥ 4294967296
        · rw [if_pos c1]
        · rw [if_neg c1, decide_eq_true]
          rcases hc with hc | hc
          · exact absurd hc (by omega)
          · exact (tests b1 b2 h3 hd).2 hc
      · by_cases c2 : rh + h ≥ 4294967296
        · have hle := t3' c2
          obtain rfl : q = qh - 1 := by omega
          refine Ev.step (fun k => ?_) hR
          simp only [bits_Div64.j1, if_true, er, eq1]; rw [if_pos (by omega)]
        · refine Ev.step (fun k => ?_) (ih (qh - 1) (rh + h) hs (by omega) (by omega) (by omega))
          simp only [bits_Div64.j1, if_true, er, eq1]; rw [if_neg (by omega)]
    · have hle := t2 hc
      have hn : ¬ (IntKind.u64.wrap ((qh : Int) * (l : Int)) > IntKind.u64.wrap (IntKind.u64.wrap (4294967296 * (rh : Int)) + (d : Int))) := fun h => hc (.inr ((tests b1 b2 h3 hd).1 h))
      obtain rfl : qh = q := by omega
      refine Ev.step (f := fun k => bits_Div64.j1 k (y : Int) (s : Int) (h : Int) (l : Int) (u : Int) (d : Int) (z : Int) (qh : Int) (rh : Int) false) (fun k => ?_) (Ev.step (fun k => ?_) hR)
      · simp only [bits_Div64.l0]; rw [if_neg (by omega), decide_eq_false hn]
      · simp only [bits_Div64.j1, Bool.false_eq_true, if_false]
/-- The last answer: quotient and rest, moved back. -/
theorem digit1 (y s h l d q1 u q : Nat) (hs : s ≤ 63) (hy : y = h * 4294967296 + l) (hh : 2147483648 ≤ h) (hh2 : h < 4294967296) (hl : l < 4294967296) (hu : u < y) (hd : d < 4294967296) (hq1 : q1 < 4294967296)
    (hq : q = (u * 4294967296 + d) / y) :
    ∀ (n qh rh : Nat), qh * h + rh = u → q ≤ qh → qh ≤ q + n → rh < 4294967296 →
      Ev (fun k => bits_Div64.l1 k (y : Int) (s : Int) (h : Int) (l : Int) (d : Int) (q1 : Int) (rh : Int) (u : Int) (qh : Int)) (((q1 * 4294967296 + q : Nat) : Int), ((((u * 4294967296 + d) % y) / 2 ^ s : Nat) : Int)) := by
  have hy0 : 0 < y := by omega
  have hmod := Nat.div_add_mod (u * 4294967296 + d) y
  rw [← hq, Nat.mul_comm] at hmod
  have hml := Nat.mod_lt (u * 4294967296 + d) hy0
  have hlast : ∀ t : Nat, t = q → t < 4294967296 → ((IntKind.u64.wrap ((IntKind.u64.wrap ((q1 : Int) * 4294967296)) + (t : Int))), shr .u64 (IntKind.u64.wrap ((IntKind.u64.wrap ((IntKind.u64.wrap ((u : Int) * 4294967296)) + (d : Int))) - (IntKind.u64.wrap ((t : Int) * (y : Int))))) (s : Int)) = (((q1 * 4294967296 + q : Nat) : Int), ((((u * 4294967296 + d) % y) / 2 ^ s : Nat) : Int)) := by
    intro t ht htl
    have e : (t : Int) * (y : Int) = ((q * y : Nat) : Int) := by rw [ht]; simp
    have e2 : IntKind.u64.wrap ((IntKind.u64.wrap ((IntKind.u64.wrap ((u : Int) * 4294967296)) + (d : Int))) - (IntKind.u64.wrap ((t : Int) * (y : Int)))) = (((u * 4294967296 + d) % y : Nat) : Int) := by
      rw [e]; simp only [wu64_mod]
      generalize q * y = z at hmod
      generalize (u * 4294967296 + d) % y = r at hmod hml
      have hyl : y < 18446744073709551616 := by omega
      omega
    rw [e2, shr_nat _ _ (by omega)]
    congr 1
    rw [wu64 (x := (q1 : Int) * 4294967296) (by omega) (by omega), wu64 (by omega) (by omega)]; omega
  intro n
  induction n with
  | zero =>
    intro qh rh he h1 h2 h3
    obtain ⟨b1, b2, b3, t1, t2, t3⟩ := guess_hi hy hh hh2 hl hu hd hq he
    have hc : ¬ (qh ≥ 4294967296 ∨ qh * l > 4294967296 * rh + d) := fun h => by have := t1 h; omega
    have hn : ¬ (IntKind.u64.wrap ((qh : Int) * (l : Int)) > IntKind.u64.wrap (IntKind.u64.wrap (4294967296 * (rh : Int)) + (d : Int))) := fun h => hc (.inr ((tests b1 b2 h3 hd).1 h))
    refine Ev.step (f := fun k => bits_Div64.j4 k (y : Int) (s : Int) (h : Int) (l : Int) (d : Int) (q1 : Int) (rh : Int) (u : Int) (qh : Int) false) (fun k => ?_) (Ev.step (fun k => ?_) (Ev.now _))
    · simp only [bits_Div64.l1]; rw [if_neg (by omega), decide_eq_false hn]
    · simp only [bits_Div64.j4, Bool.false_eq_true, if_false]; rw [if_pos (by omega), hlast qh (by omega) (by omega)]
  | succ n ih =>
    intro qh rh he h1 h2 h3
    obtain ⟨b1, b2, b3, t1, t2, t3⟩ := guess_hi hy hh hh2 hl hu hd hq he
    by_cases hc : qh ≥ 4294967296 ∨ qh * l > 4294967296 * rh + d
    · have hgt := t1 hc
      have hs' := step_down he (show 1 ≤ qh by omega)
      obtain ⟨b1', b2', b3', t1', t2', t3'⟩ := guess_hi hy hh hh2 hl hu hd hq hs'
      have eq1 : IntKind.u64.wrap ((qh : Int) - 1) = ((qh - 1 : Nat) : Int) := by rw [wu64 (by omega) (by omega)]; omega
      have er : IntKind.u64.wrap ((rh : Int) + (h : Int)) = ((rh + h : Nat) : Int) := by rw [wu64 (by omega) (by omega)]; omega
      refine Ev.step (f := fun k => bits_Div64.j4 k (y : Int) (s : Int) (h : Int) (l : Int) (d : Int) (q1 : Int) (rh : Int) (u : Int) (qh : Int) true) (fun k => ?_) ?_
      · simp only [bits_Div64.l1]
        by_cases c1 : (qh : Int) ≥ 4294967296
        · rw [if_pos c1]
        · rw [if_neg c1, decide_eq_true]
          rcases hc with hc | hc
          · exact absurd hc (by omega)
          · exact (tests b1 b2 h3 hd).2 hc
      · by_cases c2 : rh + h ≥ 4294967296
        · have hle := t3' c2
          refine Ev.step (fun k => ?_) (Ev.now _)
          simp only [bits_Div64.j4, if_true, er, eq1]; rw [if_pos (by omega), if_pos (by omega), hlast (qh - 1) (by omega) (by omega)]
        · refine Ev.step (fun k => ?_) (ih (qh - 1) (rh + h) hs' (by omega) (by omega) (by omega))
          simp only [bits_Div64.j4, if_true, er, eq1]; rw [if_neg (by omega)]
    · have hle := t2 hc
      have hn : ¬ (IntKind.u64.wrap ((qh : Int) * (l : Int)) > IntKind.u64.wrap (IntKind.u64.wrap (4294967296 * (rh : Int)) + (d : Int))) := fun h => hc (.inr ((tests b1 b2 h3 hd).1 h))
      refine Ev.step (f := fun k => bits_Div64.j4 k (y : Int) (s : Int) (h : Int) (l : Int) (d : Int) (q1 : Int) (rh : Int) (u : Int) (qh : Int) false) (fun k => ?_) (Ev.step (fun k => ?_) (Ev.now _))
      · simp only [bits_Div64.l1]; rw [if_neg (by omega), decide_eq_false hn]
      · simp only [bits_Div64.j4, Bool.false_eq_true, if_false]; rw [if_pos (by omega), hlast qh (by omega) (by omega)]
theorem or_at {x y : Int} (i : Nat) (hi : i ≤ 64) (hx0 : 0 ≤ x) (hx : x % 2 ^ i = 0) (hx1 : x < 18446744073709551616) (hy0 : 0 ≤ y) (hy : y < 2 ^ i) (hy1 : y < 18446744073709551616) : Go.bits .or .u64 x y = x + y :=
  bits_join .u64 64 (by decide) wraps_u64 i x y hx0 hx (by omega) hy0 hy (by omega)
theorem shl_nat (x i : Nat) (hi : i ≤ 64) : shl .u64 (x : Int) (i : Int) = ((x * 2 ^ i % 18446744073709551616 : Nat) : Int) := by
  unfold shl
  have : min (i : Int).toNat IntKind.u64.bits = i := by simp [IntKind.bits]; omega
  rw [this, wu64_mod]; simp
/-- Both words, moved to the left. -/
theorem moved (hi lo y s : Nat) (hs : s ≤ 63) (hlo : lo < 18446744073709551616) (hlt : hi < y) (hy : y * 2 ^ s < 18446744073709551616) :
    Go.bits .or .u64 (shl .u64 (hi : Int) (s : Int)) (shr .u64 (lo : Int) (((64 - s : Nat) : Int))) = ((hi * 2 ^ s + lo / 2 ^ (64 - s) : Nat) : Int) ∧
    (hi * 2 ^ s + lo / 2 ^ (64 - s)) * 18446744073709551616 + lo * 2 ^ s % 18446744073709551616 = (hi * 18446744073709551616 + lo) * 2 ^ s ∧ hi * 2 ^ s + lo / 2 ^ (64 - s) < y * 2 ^ s := by
  have hp : (2 : Nat) ^ (64 - s) * 2 ^ s = 18446744073709551616 := by rw [← Nat.pow_add, show 64 - s + s = 64 by omega]
  have hps := Nat.two_pow_pos s
  have hpt := Nat.two_pow_pos (64 - s)
  have hq : lo / 2 ^ (64 - s) < 2 ^ s := (Nat.div_lt_iff_lt_mul hpt).2 (by rw [Nat.mul_comm, hp]; exact hlo)
  have hdiv : lo * 2 ^ s / 18446744073709551616 = lo / 2 ^ (64 - s) := by rw [← hp]; exact Nat.mul_div_mul_right _ _ hps
  have hdm := Nat.div_add_mod (lo * 2 ^ s) 18446744073709551616
  rw [hdiv] at hdm
  have hle : (hi + 1) * 2 ^ s ≤ y * 2 ^ s := Nat.mul_le_mul_right _ hlt
  rw [Nat.add_mul, Nat.one_mul] at hle
  refine ⟨?_, ?_, by omega⟩
  · rw [shl_nat _ _ (by omega), shr_nat _ _ (by omega)]
    have e : hi * 2 ^ s % 18446744073709551616 = hi * 2 ^ s := Nat.mod_eq_of_lt (by omega)
    rw [e, or_at s (by omega) (by omega) ?_ (by omega) (by omega) ?_ (by omega)]
    · omega
    · have : ((hi * 2 ^ s : Nat) : Int) % 2 ^ s = ((hi * 2 ^ s % 2 ^ s : Nat) : Int) := by simp
      rw [this, Nat.mul_mod_left]; rfl
    · exact_mod_cast hq
  · rw [Nat.add_mul (hi * 18446744073709551616), Nat.add_mul]
    have e : hi * 18446744073709551616 * 2 ^ s = hi * 2 ^ s * 18446744073709551616 := by rw [Nat.mul_assoc, Nat.mul_comm 18446744073709551616, Nat.mul_assoc]
    omega
theorem knuth {N y s Q R : Nat} (h : N * 2 ^ s = Q * (y * 2 ^ s) + R) (hR : R < y * 2 ^ s) : N / y = Q ∧ N % y = R / 2 ^ s := by
  have hps := Nat.two_pow_pos s
  have e : Q * (y * 2 ^ s) = (Q * y) * 2 ^ s := by rw [Nat.mul_assoc]
  rw [e] at h
  have hle : Q * y * 2 ^ s ≤ N * 2 ^ s := by omega
  have hN : Q * y ≤ N := Nat.le_of_mul_le_mul_right hle hps
  obtain ⟨r, rfl⟩ := Nat.exists_eq_add_of_le hN
  have hr : R = r * 2 ^ s := by rw [Nat.add_mul] at h; omega
  have hry : r < y := by rw [hr] at hR; exact Nat.lt_of_mul_lt_mul_right hR
  have hy0 : 0 < y := by omega
  rw [hr, Nat.mul_div_cancel _ hps]
  rw [Nat.mul_comm Q y]
  exact ⟨by rw [Nat.mul_add_div hy0, Nat.div_eq_of_lt hry, Nat.add_zero], by rw [Nat.mul_add_mod, Nat.mod_eq_of_lt hry]⟩
theorem tdivN (a b : Nat) (h : a < 18446744073709551616) : IntKind.u64.wrap (Int.tdiv (a : Int) (b : Int)) = ((a / b : Nat) : Int) := by
  rw [tdiv_pos (by omega), ← Int.natCast_ediv]
  have := Nat.div_le_self a b
  generalize a / b = t at this ⊢
  exact wu64 (by omega) (by omega)
theorem j2_ev (y s h l d z q1 u : Nat) (hs : s ≤ 63) (hy : y = h * 4294967296 + l) (hh : 2147483648 ≤ h) (hh2 : h < 4294967296) (hl : l < 4294967296) (hu : u < y) (hd : d < 4294967296) (hz : z < 4294967296)
    (hq : q1 = (u * 4294967296 + d) / y) :
    Ev (fun k => bits_Div64.j2 k (y : Int) (s : Int) (h : Int) (l : Int) (u : Int) (d : Int) (z : Int) (q1 : Int))
      (((q1 * 4294967296 + (((u * 4294967296 + d) % y) * 4294967296 + z) / y : Nat) : Int), (((((u * 4294967296 + d) % y) * 4294967296 + z) % y / 2 ^ s : Nat) : Int)) := by
  have hy0 : 0 < y := by omega
  have hyl : y < 18446744073709551616 := by omega
  have hmod := Nat.div_add_mod (u * 4294967296 + d) y
  rw [← hq, Nat.mul_comm] at hmod
  have hml := Nat.mod_lt (u * 4294967296 + d) hy0
  have hq1 : q1 < 4294967296 := by rw [hq]; apply (Nat.div_lt_iff_lt_mul hy0).2; omega
  have e2 : (IntKind.u64.wrap ((IntKind.u64.wrap ((IntKind.u64.wrap ((u : Int) * 4294967296)) + (d : Int))) - (IntKind.u64.wrap ((q1 : Int) * (y : Int))))) = (((u * 4294967296 + d) % y : Nat) : Int) := by
    rw [show (q1 : Int) * (y : Int) = ((q1 * y : Nat) : Int) by simp]; simp only [wu64_mod]
    generalize q1 * y = w at hmod
    generalize (u * 4294967296 + d) % y = r at hmod hml
    omega
  obtain ⟨v, hv⟩ : ∃ v, v = (u * 4294967296 + d) % y := ⟨_, rfl⟩
  rw [← hv] at hml e2 ⊢
  clear hmod
  have hd2 := Nat.div_add_mod v h
  have hdv := Nat.div_le_self v h
  rw [Nat.mul_comm] at hd2
  have e3 : IntKind.u64.wrap (Int.tdiv (v : Int) (h : Int)) = ((v / h : Nat) : Int) := tdivN v h (by omega)
  have hmh := Nat.mod_lt v (show 0 < h by omega)
  have e4 : IntKind.u64.wrap ((v : Int) - (IntKind.u64.wrap (((v / h : Nat) : Int) * (h : Int)))) = ((v % h : Nat) : Int) := by
    rw [show ((v / h : Nat) : Int) * (h : Int) = ((v / h * h : Nat) : Int) by simp]; simp only [wu64_mod]
    generalize v / h * h = w at hd2
    omega
  obtain ⟨b1, b2, b3, t1, t2, t3⟩ := guess_hi (u := v) (d := z) (qh := v / h) (rh := v % h) hy hh hh2 hl hml hz rfl hd2
  have hge : (v * 4294967296 + z) / y ≤ v / h := by
    apply Nat.le_of_lt_succ; apply (Nat.div_lt_iff_lt_mul hy0).2
    have : (v / h + 1) * y = (v / h * h + h) * 4294967296 + (v / h + 1) * l := by rw [hy, Nat.mul_add, ← Nat.mul_assoc, Nat.add_mul, Nat.one_mul]
    show v * 4294967296 + z < (v / h + 1) * y
    omega
  refine Ev.step (fun k => ?_) (digit1 y s h l z q1 v _ hs hy hh hh2 hl hml hz hq1 rfl (v / h) (v / h) (v % h) hd2 hge (Nat.le_add_left _ _) (by omega))
  simp only [bits_Div64.j2, e2, e3, e4]
  rw [if_neg (by omega)]
theorem glue {U L Y A B C D : Nat} (x1 : A * Y + B = U * 4294967296 + L / 4294967296) (x2 : C * Y + D = B * 4294967296 + L % 4294967296) : U * 18446744073709551616 + L = (A * 4294967296 + C) * Y + D := by
  rw [Nat.add_mul, show A * 4294967296 * Y = A * Y * 4294967296 by rw [Nat.mul_assoc, Nat.mul_comm 4294967296, Nat.mul_assoc]]
  omega
theorem div64_ev (hi lo y : Nat) (hy : y < 18446744073709551616) (hlo : lo < 18446744073709551616) (hlt : hi < y) :
    Ev (fun k => bits_Div64.f k (hi : Int) (lo : Int) (y : Int)) ((((hi * 18446744073709551616 + lo) / y : Nat) : Int), (((hi * 18446744073709551616 + lo) % y : Nat) : Int)) := by
  have n1 : ¬ ((y : Int) = 0) := by omega
  have n2 : ¬ ((y : Int) ≤ (hi : Int)) := by omega
  unfold bits_Div64.f
  simp only [n1, n2, if_false]
  by_cases c : hi = 0
  · subst c
    have c' : ((0 : Nat) : Int) = 0 := rfl
    simp only [c', if_true]
    rw [tdivN lo y hlo, Int.tmod_eq_emod_of_nonneg (by omega)]
    simp only [Nat.zero_mul, Nat.zero_add]
    rw [← Int.natCast_emod]; exact Ev.now _
  · have c' : ¬ ((hi : Int) = 0) := by omega
    simp only [c', if_false]
    obtain ⟨s, he, hs, hy1, hy2⟩ := lz_ev y (by omega) hy
    refine Ev.bind he ?_
    obtain ⟨m1, m2, m3⟩ := moved hi lo y s hs hlo hlt hy2
    have w1 : IntKind.u64.wrap (s : Int) = (s : Int) := wu64 (by omega) (by omega)
    have w2 : IntKind.u64.wrap (64 - (s : Int)) = ((64 - s : Nat) : Int) := by rw [wu64 (by omega) (by omega)]; omega
    have w3 : shl .u64 (y : Int) (s : Int) = ((y * 2 ^ s : Nat) : Int) := by rw [shl_nat _ _ (by omega), Nat.mod_eq_of_lt hy2]
    have w4 : shl .u64 (lo : Int) (s : Int) = ((lo * 2 ^ s % 18446744073709551616 : Nat) : Int) := shl_nat _ _ (by omega)
    simp only [w1, w2, w3, w4, m1]
    generalize hY : y * 2 ^ s = Y at hy1 hy2 m3
    generalize hU : hi * 2 ^ s + lo / 2 ^ (64 - s) = U at m2 m3
    generalize hL : lo * 2 ^ s % 18446744073709551616 = L at m2
    have hLl : L < 18446744073709551616 := by rw [← hL]; exact Nat.mod_lt _ (by omega)
    have p1 : (0 : Int) ≤ (s : Int) := by omega
    have p2 : (0 : Int) ≤ ((64 - s : Nat) : Int) := by omega
    have d1 : (Y : Int) / 4294967296 = ((Y / 4294967296 : Nat) : Int) := by omega
    have d2 : (L : Int) / 4294967296 = ((L / 4294967296 : Nat) : Int) := by omega
    have a1 : Go.bits .and .u64 (Y : Int) 4294967295 = ((Y % 4294967296 : Nat) : Int) := by rw [and32 (by omega) (by omega)]; omega
    have a2 : Go.bits .and .u64 (L : Int) 4294967295 = ((L % 4294967296 : Nat) : Int) := by rw [and32 (by omega) (by omega)]; omega
    simp only [p1, p2, if_true, d1, d2, a1, a2]
    have n3 : ¬ ((Y / 4294967296 : Nat) : Int) = 0 := by omega
    simp only [n3, if_false]
    have hYe : Y = Y / 4294967296 * 4294967296 + Y % 4294967296 := by omega
    generalize hh : Y / 4294967296 = h at *
    generalize hl : Y % 4294967296 = l at *
    have hd2 := Nat.div_add_mod U h
    rw [Nat.mul_comm] at hd2
    have hdv := Nat.div_le_self U h
    have hmh := Nat.mod_lt U (show 0 < h by omega)
    have e3 : IntKind.u64.wrap (Int.tdiv (U : Int) (h : Int)) = ((U / h : Nat) : Int) := tdivN U h (by omega)
    have e4 : IntKind.u64.wrap ((U : Int) - (IntKind.u64.wrap (((U / h : Nat) : Int) * (h : Int)))) = ((U % h : Nat) : Int) := by
      rw [show ((U / h : Nat) : Int) * (h : Int) = ((U / h * h : Nat) : Int) by simp]; simp only [wu64_mod]
      generalize U / h * h = w at hd2
      omega
    simp only [e3, e4]
    have hh1 : 2147483648 ≤ h := by omega
    have hh2 : h < 4294967296 := by omega
    have hll : l < 4294967296 := by omega
    obtain ⟨b1, b2, b3, t1, t2, t3⟩ := guess_hi (u := U) (d := L / 4294967296) (qh := U / h) (rh := U % h) hYe hh1 hh2 hll m3 (by omega) rfl hd2
    have hY0 : 0 < Y := by omega
    have hge : (U * 4294967296 + L / 4294967296) / Y ≤ U / h := by
      apply Nat.le_of_lt_succ; apply (Nat.div_lt_iff_lt_mul hY0).2
      have : (U / h + 1) * Y = (U / h * h + h) * 4294967296 + (U / h + 1) * l := by rw [hYe, Nat.mul_add, ← Nat.mul_assoc, Nat.add_mul, Nat.one_mul]
      show U * 4294967296 + L / 4294967296 < (U / h + 1) * Y
      omega
    have hj := j2_ev Y s h l (L / 4294967296) (L % 4294967296) _ U hs hYe hh1 hh2 hll m3 (by omega) (by omega) rfl
    have hres := digit0 Y s h l U (L / 4294967296) (L % 4294967296) _ hYe hh1 hh2 hll m3 (by omega) rfl _ hj (U / h) (U / h) (U % h) hd2 hge (Nat.le_add_left _ _) (by omega)
    have x1 := Nat.div_add_mod (U * 4294967296 + L / 4294967296) Y
    have x2 := Nat.div_add_mod ((U * 4294967296 + L / 4294967296) % Y * 4294967296 + L % 4294967296) Y
    have x3 := Nat.mod_lt ((U * 4294967296 + L / 4294967296) % Y * 4294967296 + L % 4294967296) hY0
    have hk := knuth (N := hi * 18446744073709551616 + lo) (y := y) (s := s) (Q := (U * 4294967296 + L / 4294967296) / Y * 4294967296 + ((U * 4294967296 + L / 4294967296) % Y * 4294967296 + L % 4294967296) / Y) (R := ((U * 4294967296 + L / 4294967296) % Y * 4294967296 + L % 4294967296) % Y)
      (by
        rw [← m2, hY]; exact glue (by rw [Nat.mul_comm]; exact x1) (by rw [Nat.mul_comm]; exact x2))
      (by rw [hY]; exact x3)
    rw [hk.1, hk.2]
    exact hres
end Go.Proofs.Ytgaiaidigdennaa.AidDiv
