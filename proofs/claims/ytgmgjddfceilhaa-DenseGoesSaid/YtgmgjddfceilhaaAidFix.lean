/- What the printed functions of package fix and of its reference answer, as one clean rounding and saturation. Conditions: numbers of 64 bits. -/
import Derived.Test.YtgmgjddfceilhaaPDenx4
import Derived.Test.YtgmgjddfceilhaaPDenx12
import Derived.Test.YtgmgjddfceilhaaAid
import Derived.Lib.Mul64
import Derived.Shelf.Bits.Mul64
set_option linter.unusedSimpArgs false
set_option linter.unusedVariables false
namespace Go.Proofs.Ytgmgjddfceilhaa.AidFix
open Go.RowKit Go.Proofs.Ytgmgjddfceilhaa.PDen Go.Proofs.Ytgmgjddfceilhaa.Aid Go.Proofs.YtgmgjddfceilhaaW.PrintWords Go.Proofs.YtgmgjddfceilhaaW.PrintLast Go.Proofs.YtgmgjddfceilhaaW.PrintMore
theorem wraps_u64 (n : Int) (h₀ : 0 ≤ n) (h₁ : n < 2 ^ 64) : IntKind.u64.wrap n = n := by rw [wu64_mod]; omega
theorem and1 {x : Int} (h0 : 0 ≤ x) (h1 : x < 18446744073709551616) : Go.bits .and .u64 x 1 = x % 2 := bits_mask .u64 64 (by decide) wraps_u64 1 (by decide) x h0 (by omega)
theorem and32 {x : Int} (h0 : 0 ≤ x) (h1 : x < 18446744073709551616) : Go.bits .and .u64 x 4294967295 = x % 4294967296 := bits_mask .u64 64 (by decide) wraps_u64 32 (by decide) x h0 (by omega)
theorem or32 {x y : Int} (hx0 : 0 ≤ x) (hx : x % 4294967296 = 0) (hx1 : x < 18446744073709551616) (hy0 : 0 ≤ y) (hy : y < 4294967296) : Go.bits .or .u64 x y = x + y :=
  bits_join .u64 64 (by decide) wraps_u64 32 x y hx0 (by omega) (by omega) hy0 (by omega) (by omega)
theorem or1 {x : Int} (hx0 : 0 ≤ x) (hx : x % 2 = 0) (hx1 : x < 18446744073709551616) (y : Int) (hy0 : 0 ≤ y) (hy : y < 2) : Go.bits .or .u64 x y = x + y :=
  bits_join .u64 64 (by decide) wraps_u64 1 x y hx0 (by omega) (by omega) hy0 (by omega) (by omega)
/-- Sixty-four bits. -/
def I64 (x : Int) : Prop := -9223372036854775808 ≤ x ∧ x ≤ 9223372036854775807
theorem size_f {x : Int} (h : I64 x) : fix_size.f x = some (x.natAbs : Int) := by
  unfold I64 at h; unfold fix_size.f; simp only [wu64_mod]
  by_cases c : x < 0
  · rw [if_pos c]; congr 1; omega
  · rw [if_neg c]; congr 1; omega
theorem refSize_f {x : Int} (h : I64 x) : athanorref01_Size.f x = some (x.natAbs : Int) := by
  unfold I64 at h; unfold athanorref01_Size.f; simp only [wu64_mod]; unfold wrap64
  by_cases c : x < 0
  · rw [if_pos c]; congr 1; omega
  · rw [if_neg c]; congr 1; omega
/-- A magnitude with a sign, held within bounds. -/
def satb (n : Int) (over neg : Bool) : Int :=
  if neg = true then (if (over || decide (n ≥ 9223372036854775808)) = true then -9223372036854775808 else -n)
  else (if (over || decide (n ≥ 9223372036854775808)) = true then 9223372036854775807 else n)
theorem signed_ev (n : Int) (over neg : Bool) (h0 : 0 ≤ n) (h1 : n < 18446744073709551616) : Ev (fun k => fix_signed.f k n over neg) (satb n over neg) := by
  unfold fix_signed.f satb
  have w : (¬ n ≥ 9223372036854775808) → wrap64 n = n ∧ wrap64 (-n) = -n := fun h => ⟨w64 (by omega) (by omega), w64 (by omega) (by omega)⟩
  have hd : ∀ k, k ≥ 2 → ∃ m, k = m + 2 := fun k hk => ⟨k - 2, by omega⟩
  by_cases c : n ≥ 9223372036854775808
  · cases neg <;> cases over <;> simp only [Bool.false_eq_true, if_false, if_true, Bool.false_or, Bool.true_or, decide_eq_true_eq, c, decide_true] <;>
      (refine ⟨2, fun k hk => ?_⟩; obtain ⟨m, rfl⟩ := hd k hk; simp [fix_signed.j0, fix_signed.j1, c])
  · obtain ⟨w1, w2⟩ := w c
    cases neg <;> cases over <;> simp only [Bool.false_eq_true, if_false, if_true, Bool.false_or, Bool.true_or, decide_eq_true_eq, c, decide_false] <;>
      (refine ⟨2, fun k hk => ?_⟩; obtain ⟨m, rfl⟩ := hd k hk; simp [fix_signed.j0, fix_signed.j1, c, w1, w2])
theorem held_ev (n : Int) (over neg : Bool) (h0 : 0 ≤ n) (h1 : n < 18446744073709551616) : Ev (fun k => athanorref01_Held.f k n over neg) (satb n over neg) := by
  unfold athanorref01_Held.f satb
  have w : (¬ n ≥ 9223372036854775808) → wrap64 n = n ∧ wrap64 (-n) = -n := fun h => ⟨w64 (by omega) (by omega), w64 (by omega) (by omega)⟩
  have hd : ∀ k, k ≥ 1 → ∃ m, k = m + 1 := fun k hk => ⟨k - 1, by omega⟩
  by_cases c : n ≥ 9223372036854775808
  · by_cases e : n = 9223372036854775808
    · have e' : ¬ n > 9223372036854775808 := by omega
      cases neg <;> cases over <;> simp only [Bool.false_eq_true, if_false, if_true, Bool.false_or, Bool.true_or, decide_eq_true_eq, c, decide_true] <;>
        (refine ⟨1, fun k hk => ?_⟩; obtain ⟨m, rfl⟩ := hd k hk; simp [athanorref01_Held.j0, e])
    · have e' : n > 9223372036854775808 := by omega
      cases neg <;> cases over <;> simp only [Bool.false_eq_true, if_false, if_true, Bool.false_or, Bool.true_or, decide_eq_true_eq, c, decide_true] <;>
        (refine ⟨1, fun k hk => ?_⟩; obtain ⟨m, rfl⟩ := hd k hk; simp [athanorref01_Held.j0, e', c])
  · obtain ⟨w1, w2⟩ := w c
    have e' : ¬ n > 9223372036854775808 := by omega
    have e : ¬ n = 9223372036854775808 := by omega
    cases neg <;> cases over <;> simp only [Bool.false_eq_true, if_false, if_true, Bool.false_or, Bool.true_or, decide_eq_true_eq, c, decide_false] <;>
      (refine ⟨1, fun k hk => ?_⟩; obtain ⟨m, rfl⟩ := hd k hk; simp [athanorref01_Held.j0, c, w1, w2, e, e'])
theorem mul64_f (x y : Nat) (hx : x < 18446744073709551616) (hy : y < 18446744073709551616) :
    bits_Mul64.f (x : Int) (y : Int) = some (((x * y / 18446744073709551616 : Nat) : Int), ((x * y % 18446744073709551616 : Nat) : Int)) := by
  obtain ⟨bd, bt, bw, hhi⟩ := Lib.mul64_hi x y hx hy
  have ba := Lib.half_mul_le (a := x / 4294967296) (b := y / 4294967296) (by omega) (by omega)
  have bb := Lib.half_mul_le (a := x / 4294967296) (b := y % 4294967296) (by omega) (by omega)
  have bc := Lib.half_mul_le (a := x % 4294967296) (b := y / 4294967296) (by omega) (by omega)
  have ba' : x / 4294967296 * (y / 4294967296) < 18446744073709551616 := by omega
  have bb' : x / 4294967296 * (y % 4294967296) < 18446744073709551616 := by omega
  have bc' : x % 4294967296 * (y / 4294967296) < 18446744073709551616 := by omega
  have bh1 : x / 4294967296 * (y / 4294967296) + (x / 4294967296 * (y % 4294967296) + x % 4294967296 * (y % 4294967296) / 4294967296) / 4294967296 < 18446744073709551616 := by omega
  have bh : x / 4294967296 * (y / 4294967296) + (x / 4294967296 * (y % 4294967296) + x % 4294967296 * (y % 4294967296) / 4294967296) / 4294967296 + ((x / 4294967296 * (y % 4294967296) + x % 4294967296 * (y % 4294967296) / 4294967296) % 4294967296 + x % 4294967296 * (y / 4294967296)) / 4294967296 < 18446744073709551616 := by omega
  unfold bits_Mul64.f
  simp only [Mul64.maskN x hx, Mul64.maskN y hy, Mul64.divN, Mul64.mulN, Mul64.addN, Mul64.wrapN _ bd, Mul64.wrapN _ bb', Mul64.wrapN _ bt, Mul64.maskN _ bt, Mul64.wrapN _ bc', Mul64.wrapN _ bw, Mul64.wrapN _ ba', Mul64.wrapN _ bh1, Mul64.wrapN _ bh, Mul64.wrapM (x * y)]
  rw [hhi]
/-- A magnitude by 2^32, rounded to the even one. -/
def rneN (P : Nat) : Nat := if P % 4294967296 > 2147483648 ∨ (P % 4294967296 = 2147483648 ∧ (P / 4294967296) % 2 = 1) then P / 4294967296 + 1 else P / 4294967296
/-- A magnitude with a sign, held within bounds. -/
def satI (neg : Bool) (N : Nat) : Int := if neg = true then (if N ≥ 9223372036854775808 then -9223372036854775808 else -(N : Int)) else (if N ≥ 9223372036854775808 then 9223372036854775807 else (N : Int))
def xneg (x y : Int) : Bool := (decide (x < 0)) != (decide (y < 0))
def mulS (x y : Int) : Int := satI (xneg x y) (rneN (x.natAbs * y.natAbs))
theorem natAbs_le {x : Int} (h : I64 x) : x.natAbs ≤ 9223372036854775808 := by unfold I64 at h; omega
theorem sat_of (P : Nat) (neg : Bool) (n : Int) (over : Bool) (hn : n = ((P % 18446744073709551616 : Nat) : Int)) (ho : over = true ↔ P ≥ 18446744073709551616) : satb n over neg = satI neg P := by
  unfold satb satI
  by_cases c : P ≥ 9223372036854775808
  · have : (over || decide (n ≥ 9223372036854775808)) = true := by
      by_cases c2 : P ≥ 18446744073709551616
      · rw [ho.2 c2]; rfl
      · simp; right; omega
    rw [this]; simp only [if_true, if_pos c]
  · have c2 : ¬ P ≥ 18446744073709551616 := by omega
    have : (over || decide (n ≥ 9223372036854775808)) = false := by
      have h1 : over = false := by cases h : over with
        | false => rfl
        | true => exact absurd (ho.1 h) c2
      rw [h1]; simp; omega
    rw [this]; simp only [Bool.false_eq_true, if_false, if_neg c]
    have : n = (P : Int) := by omega
    rw [this]
/-- Both words of a product, put together and rounded. -/
theorem joined_n (P : Nat) (hP : P < 340282366920938463463374607431768211456) :
    Go.bits .or .u64 (IntKind.u64.wrap ((((P / 18446744073709551616 : Nat) : Int)) * 4294967296)) ((((P % 18446744073709551616 : Nat) : Int)) / 4294967296) = (((P / 4294967296) % 18446744073709551616 : Nat) : Int) := by
  rw [wu64_mod, or32 (by omega) (by omega) (by omega) (by omega) (by omega)]
  omega
/-- n made greater by one, or not, held. -/
theorem up_of (P : Nat) (hP : P < 340282366920938463463374607431768211456) (neg up over : Bool) (n : Int) (hn : n = (((P / 4294967296) % 18446744073709551616 : Nat) : Int))
    (hu : up = true ↔ (P % 4294967296 > 2147483648 ∨ (P % 4294967296 = 2147483648 ∧ (P / 4294967296) % 2 = 1))) (ho : over = true ↔ P / 4294967296 ≥ 18446744073709551616) :
    (if up = true then satb ((n + 1) % 18446744073709551616) (over || ((n + 1) % 18446744073709551616 == 0)) neg else satb n over neg) = satI neg (rneN P) := by
  unfold rneN
  cases up with
  | true =>
    rw [if_pos rfl, if_pos (hu.1 rfl)]
    refine sat_of _ neg _ _ (by omega) ?_
    rw [Bool.or_eq_true, ho, beq_iff_eq]
    omega
  | false =>
    rw [if_neg (by simp), if_neg (fun h => by have := hu.2 h; simp at this)]
    exact sat_of _ neg _ _ hn ho
theorem mulP_lt {x y : Nat} (hx : x ≤ 9223372036854775808) (hy : y ≤ 9223372036854775808) : x * y ≤ 85070591730234615865843651857942052864 := Nat.mul_le_mul hx hy
theorem mul_ev (x y : Int) (hx : I64 x) (hy : I64 y) : Ev (fun k => fix_F_Mul.f k x y) (mulS x y) := by
  have ax := natAbs_le hx
  have ay := natAbs_le hy
  have hP := mulP_lt ax ay
  unfold fix_F_Mul.f mulS
  rw [size_f hx, size_f hy]
  simp only [Option.bind_some]
  rw [mul64_f _ _ (by omega) (by omega)]
  simp only [Option.bind_some]
  generalize x.natAbs * y.natAbs = P at hP
  have hj := joined_n P (by omega)
  simp only [hj]
  rw [and32 (by omega) (by omega), and1 (by omega) (by omega), wu64_mod]
  have hu := up_of P (by omega) (xneg x y)
  have e1 : ((((P % 18446744073709551616 : Nat) : Int) % 4294967296 > 2147483648) ↔ P % 4294967296 > 2147483648) := by omega
  have e2 : ((((P % 18446744073709551616 : Nat) : Int) % 4294967296 = 2147483648) ↔ P % 4294967296 = 2147483648) := by omega
  have e3 : (((((P / 4294967296) % 18446744073709551616 : Nat) : Int) % 2 = 1) ↔ (P / 4294967296) % 2 = 1) := by omega
  have e4 : (((P / 18446744073709551616 : Nat) : Int) / 4294967296 = 0) ↔ ¬ P / 4294967296 ≥ 18446744073709551616 := by omega
  have e5 : ((((P / 18446744073709551616 : Nat) : Int) / 4294967296) != 0) = true ↔ P / 4294967296 ≥ 18446744073709551616 := by rw [bne_iff_ne, Ne, e4]; omega
  simp only [e1, e2, e3]
  have hs : ∀ (n : Int) (o : Bool), 0 ≤ n → n < 18446744073709551616 → Ev (fun k => (fix_signed.f k n o (xneg x y)).bind fun t => some t) (satb n o (xneg x y)) := fun n o h0 h1 => Ev.bind (signed_ev n o _ h0 h1) (Ev.now _)
  have hup : ∀ up : Bool, (up = true ↔ (P % 4294967296 > 2147483648 ∨ (P % 4294967296 = 2147483648 ∧ (P / 4294967296) % 2 = 1))) → up = true →
      Ev (fun k => if (((P / 18446744073709551616 : Nat) : Int) / 4294967296) = 0 then ((fix_signed.f k (((((P / 4294967296) % 18446744073709551616 : Nat) : Int) + 1) % 18446744073709551616) ((((((P / 4294967296) % 18446744073709551616 : Nat) : Int) + 1) % 18446744073709551616) == 0) (xneg x y)).bind fun t => some t) else ((fix_signed.f k (((((P / 4294967296) % 18446744073709551616 : Nat) : Int) + 1) % 18446744073709551616) true (xneg x y)).bind fun t => some t)) (satI (xneg x y) (rneN P)) := by
    intro up h1 h2
    have h3 := hu up (decide (P / 4294967296 ≥ 18446744073709551616)) _ rfl h1 (by simp)
    rw [if_pos h2] at h3
    by_cases c : P / 4294967296 ≥ 18446744073709551616
    · have c' : ¬ (((P / 18446744073709551616 : Nat) : Int) / 4294967296) = 0 := by omega
      simp only [c', if_false]
      have := hs (((((P / 4294967296) % 18446744073709551616 : Nat) : Int) + 1) % 18446744073709551616) true (by omega) (by omega)
      rw [decide_eq_true c, Bool.true_or] at h3
      rw [h3] at this; exact this
    · have c' : (((P / 18446744073709551616 : Nat) : Int) / 4294967296) = 0 := by omega
      simp only [c', if_true]
      have := hs (((((P / 4294967296) % 18446744073709551616 : Nat) : Int) + 1) % 18446744073709551616) ((((((P / 4294967296) % 18446744073709551616 : Nat) : Int) + 1) % 18446744073709551616) == 0) (by omega) (by omega)
      rw [decide_eq_false c, Bool.false_or] at h3
      rw [h3] at this; exact this
  have hdn : ¬ (P % 4294967296 > 2147483648 ∨ (P % 4294967296 = 2147483648 ∧ (P / 4294967296) % 2 = 1)) →
      Ev (fun k => (fix_signed.f k (((P / 4294967296) % 18446744073709551616 : Nat) : Int) ((((P / 18446744073709551616 : Nat) : Int) / 4294967296) != 0) (xneg x y)).bind fun t => some t) (satI (xneg x y) (rneN P)) := by
    intro h
    have h3 := hu false ((((P / 18446744073709551616 : Nat) : Int) / 4294967296) != 0) _ rfl ⟨fun h => (by cases h), fun h' => absurd h' h⟩ e5
    rw [if_neg (by simp)] at h3
    rw [← h3]
    exact hs _ _ (by omega) (by omega)
  by_cases c1 : P % 4294967296 > 2147483648
  · simp only [c1, if_true]
    exact hup true ⟨fun _ => .inl c1, fun _ => rfl⟩ rfl
  · simp only [c1, if_false]
    by_cases c2 : P % 4294967296 = 2147483648
    · simp only [c2, if_true]
      by_cases c3 : (P / 4294967296) % 2 = 1
      · simp only [c3, if_true]
        exact hup true ⟨fun _ => .inr ⟨c2, c3⟩, fun _ => rfl⟩ rfl
      · simp only [c3, if_false]
        exact hdn (by omega)
    · simp only [c2, if_false]
      exact hdn (by omega)
/-- The reference's product, bit by bit. -/
theorem double_f (H L : Nat) (hL : L < 18446744073709551616) (h : (H * 18446744073709551616 + L) * 2 < 340282366920938463463374607431768211456) :
    athanorref01_double.f (H : Int) (L : Int) = some (((((H * 18446744073709551616 + L) * 2) / 18446744073709551616 : Nat) : Int), ((((H * 18446744073709551616 + L) * 2) % 18446744073709551616 : Nat) : Int)) := by
  unfold athanorref01_double.f
  simp only [wu64_mod]
  rw [or1 (by omega) (by omega) (by omega) _ (by omega) (by omega)]
  congr 2 <;> omega
theorem plus_f (H L a : Nat) (hL : L < 18446744073709551616) (ha : a < 18446744073709551616) (h : H * 18446744073709551616 + L + a < 340282366920938463463374607431768211456) :
    athanorref01_plus.f (H : Int) (L : Int) 0 (a : Int) = some ((((H * 18446744073709551616 + L + a) / 18446744073709551616 : Nat) : Int), (((H * 18446744073709551616 + L + a) % 18446744073709551616 : Nat) : Int)) := by
  unfold athanorref01_plus.f
  simp only [wu64_mod]
  by_cases c : ((L : Int) + (a : Int)) % 18446744073709551616 < (L : Int)
  · rw [if_pos c]; congr 2 <;> omega
  · rw [if_neg c]; congr 2 <;> omega
theorem shr_nat (x : Nat) (i : Nat) (hi : i ≤ 64) : shr .u64 (x : Int) (i : Int) = ((x / 2 ^ i : Nat) : Int) := by
  unfold shr
  have : min (i : Int).toNat IntKind.u64.bits = i := by simp [IntKind.bits]; omega
  rw [this]; simp
theorem bit_step (b i : Nat) : b / 2 ^ i = 2 * (b / 2 ^ (i + 1)) + (b / 2 ^ i) % 2 := by
  have : b / 2 ^ (i + 1) = b / 2 ^ i / 2 := by rw [Nat.pow_succ, Nat.div_div_eq_div_mul]
  omega
theorem bit_lt {b i : Nat} (hb : b ≤ 9223372036854775808) (hi : i ≤ 63) : b / 2 ^ i < 18446744073709551616 := by
  have := Nat.div_le_self b (2 ^ i); omega
theorem product_ev (a b : Nat) (ha : a ≤ 9223372036854775808) (hb : b ≤ 9223372036854775808) : ∀ (n : Nat), n ≤ 64 → ∀ (P : Nat), P = a * (b / 2 ^ n) →
    Ev (fun k => athanorref01_Product.l0 k (a : Int) (b : Int) ((n : Int) - 1) ((P / 18446744073709551616 : Nat) : Int) ((P % 18446744073709551616 : Nat) : Int)) (((a * b / 18446744073709551616 : Nat) : Int), ((a * b % 18446744073709551616 : Nat) : Int)) := by
  intro n
  induction n with
  | zero =>
    intro _ P hP
    refine Ev.step (fun k => ?_) (Ev.now _)
    simp only [athanorref01_Product.l0]; rw [if_neg (by omega), hP]; simp
  | succ i ih =>
    intro hn P hP
    have hs := bit_step b i
    have hle : a * (b / 2 ^ i) ≤ 85070591730234615865843651857942052864 := mulP_lt ha (Nat.le_trans (Nat.div_le_self _ _) hb)
    have hlt := bit_lt hb (show i ≤ 63 by omega)
    have hr : ((i : Int) + 1 - 1) = (i : Int) := by omega
    have hP2 : P * 2 = a * (2 * (b / 2 ^ (i + 1))) := by rw [hP]; rw [Nat.mul_assoc, Nat.mul_comm _ 2]
    have hb2 : Go.bits .and .u64 (shr .u64 (b : Int) (IntKind.u64.wrap (i : Int))) 1 = ((b / 2 ^ i % 2 : Nat) : Int) := by
      rw [wu64 (by omega) (by omega), shr_nat _ _ (by omega), and1 (by omega) (by omega)]; omega
    have hd := Nat.div_add_mod P 18446744073709551616
    rw [Nat.mul_comm] at hd
    have hm : (P / 18446744073709551616) * 18446744073709551616 + P % 18446744073709551616 = P := hd
    rcases Nat.mod_two_eq_zero_or_one (b / 2 ^ i) with h0 | h0
    · have e : a * (b / 2 ^ i) = P * 2 := by rw [hP2, hs, h0, Nat.add_zero]
      refine Ev.step (fun k => ?_) (ih (by omega) (P * 2) e.symm)
      simp only [athanorref01_Product.l0]
      rw [if_pos (by omega), double_f _ _ (by omega) (by rw [hm]; omega)]
      simp only [Option.bind_some, hm]
      rw [show ((((i + 1 : Nat) : Int)) - 1) = (i : Int) by omega, if_pos (by rw [wu64 (by omega) (by omega)]; omega), hb2, h0, if_neg (by omega), w64 (by omega) (by omega)]
    · have e : a * (b / 2 ^ i) = P * 2 + a := by
        rw [hP2, hs, h0, Nat.mul_add, Nat.mul_one]
      refine Ev.step (fun k => ?_) (ih (by omega) (P * 2 + a) e.symm)
      simp only [athanorref01_Product.l0]
      have hd2 := Nat.div_add_mod (P * 2) 18446744073709551616
      rw [Nat.mul_comm 18446744073709551616] at hd2
      rw [if_pos (by omega), double_f _ _ (by omega) (by rw [hm]; omega)]
      simp only [Option.bind_some, hm]
      rw [show ((((i + 1 : Nat) : Int)) - 1) = (i : Int) by omega, if_pos (by rw [wu64 (by omega) (by omega)]; omega), hb2, h0, if_pos (by omega), plus_f _ _ _ (by omega) (by omega) (by rw [hd2]; omega)]
      simp only [Option.bind_some, hd2]
      rw [w64 (by omega) (by omega)]
theorem refMul_ev (x y : Int) (hx : I64 x) (hy : I64 y) : Ev (fun k => athanorref01_Mul.f k x y) (mulS x y) := by
  have ax := natAbs_le hx
  have ay := natAbs_le hy
  have hP := mulP_lt ax ay
  have hpr := product_ev x.natAbs y.natAbs ax ay 64 (by omega) 0 (by rw [Nat.div_eq_of_lt (by omega)]; rfl)
  unfold athanorref01_Mul.f athanorref01_Product.f mulS
  rw [refSize_f hx, refSize_f hy]
  simp only [Option.bind_some]
  refine Ev.bind hpr ?_
  generalize x.natAbs * y.natAbs = P at hP
  have hj := joined_n P (by omega)
  simp only [hj]
  have hu := up_of P (by omega) (xneg x y)
  have e0 : IntKind.u64.wrap (((P % 18446744073709551616 : Nat) : Int) * 4294967296) / 4294967296 = ((P % 4294967296 : Nat) : Int) := by rw [wu64_mod]; omega
  rw [e0]
  have ho : (decide (((P / 18446744073709551616 : Nat) : Int) / 4294967296 > 0)) = true ↔ P / 4294967296 ≥ 18446744073709551616 := by rw [decide_eq_true_eq]; omega
  have hj0 : ∀ up : Bool, (up = true ↔ (P % 4294967296 > 2147483648 ∨ (P % 4294967296 = 2147483648 ∧ (P / 4294967296) % 2 = 1))) →
      Ev (fun k => athanorref01_Mul.j0 k x y (((P / 4294967296) % 18446744073709551616 : Nat) : Int) (decide (((P / 18446744073709551616 : Nat) : Int) / 4294967296 > 0)) up) (satI (xneg x y) (rneN P)) := by
    intro up h1
    have h3 := hu up _ _ rfl h1 ho
    have hs : ∀ (n : Int) (o : Bool), 0 ≤ n → n < 18446744073709551616 → Ev (fun k => (athanorref01_Held.f k n o (xneg x y)).bind fun t => some t) (satb n o (xneg x y)) := fun n o h0 h1 => Ev.bind (held_ev n o _ h0 h1) (Ev.now _)
    cases up with
    | false =>
      rw [if_neg (by simp)] at h3
      have := hs (((P / 4294967296) % 18446744073709551616 : Nat) : Int) (decide (((P / 18446744073709551616 : Nat) : Int) / 4294967296 > 0)) (by omega) (by omega)
      rw [h3] at this
      exact Ev.step (fun k => by simp only [athanorref01_Mul.j0, Bool.false_eq_true, if_false]; rfl) this
    | true =>
      rw [if_pos rfl] at h3
      by_cases c : ((((P / 4294967296) % 18446744073709551616 : Nat) : Int) + 1) % 18446744073709551616 = 0
      · rw [c] at h3
        simp only [beq_self_eq_true, Bool.or_true] at h3
        have := hs 0 true (by omega) (by omega)
        rw [h3] at this
        exact Ev.step (fun k => by simp only [athanorref01_Mul.j0, if_true, wu64_mod, c]; rfl) this
      · rw [show ((((((P / 4294967296) % 18446744073709551616 : Nat) : Int) + 1) % 18446744073709551616) == 0) = false from beq_eq_false_iff_ne.2 c, Bool.or_false] at h3
        have := hs (((((P / 4294967296) % 18446744073709551616 : Nat) : Int) + 1) % 18446744073709551616) (decide (((P / 18446744073709551616 : Nat) : Int) / 4294967296 > 0)) (by omega) (by omega)
        rw [h3] at this
        exact Ev.step (fun k => by simp only [athanorref01_Mul.j0, if_true, wu64_mod]; rw [if_neg c]; rfl) this
  by_cases c1 : P % 4294967296 > 2147483648
  · have c1' : ((P % 4294967296 : Nat) : Int) > 2147483648 := by omega
    simp only [c1', if_true]
    exact hj0 true ⟨fun _ => .inl c1, fun _ => rfl⟩
  · have c1' : ¬ ((P % 4294967296 : Nat) : Int) > 2147483648 := by omega
    simp only [c1', if_false]
    by_cases c2 : P % 4294967296 = 2147483648
    · have c2' : ((P % 4294967296 : Nat) : Int) = 2147483648 := by omega
      simp only [c2', if_true]
      refine hj0 _ ?_
      rw [beq_iff_eq, Int.tmod_eq_emod_of_nonneg (by omega)]
      omega
    · have c2' : ¬ ((P % 4294967296 : Nat) : Int) = 2147483648 := by omega
      simp only [c2', if_false]
      exact hj0 false ⟨fun h => (by cases h), fun h => by omega⟩
end Go.Proofs.Ytgmgjddfceilhaa.AidFix
