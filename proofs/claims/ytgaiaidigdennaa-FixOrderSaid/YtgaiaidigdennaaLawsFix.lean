/- The six laws of package fix, on the printed functions: products, quotients, sums, ratios, floors and lists are the document's; products by a non-negative number and sums keep the order. Conditions: those of the printed statements (numbers of 64 bits; lists of at most 2^47 - 4096 bytes). -/
import Derived.Test.YtgaiaidigdennaaPFixx
import Derived.Test.YtgaiaidigdennaaAidQuo
set_option linter.unusedSimpArgs false
set_option linter.unusedVariables false
namespace Go.Proofs.Ytgaiaidigdennaa.LawsFix
open Go.RowKit Go.Proofs.Ytgaiaidigdennaa.PFix Go.Proofs.Ytgaiaidigdennaa.Aid Go.Proofs.Ytgaiaidigdennaa.AidFix Go.Proofs.Ytgaiaidigdennaa.AidDiv Go.Proofs.Ytgaiaidigdennaa.AidQuo Go.Proofs.YtgaiaidigdennaaW.PrintWords Go.Proofs.YtgaiaidigdennaaW.PrintLast Go.Proofs.YtgaiaidigdennaaW.PrintMore
theorem awake_ev : Ev (fun k => athanorlaw01_awake.f k) true := Ev.of (fun k => athanorlaw01_awake.mono k) (k := 120) (by decide +kernel)
theorem sub_ev (x y : Int) (hx : I64 x) (hy : I64 y) : Ev (fun k => fix_F_Sub.f k x y) (subS x y) := by
  have hx' := hx; have hy' := hy
  unfold I64 at hx hy
  unfold fix_F_Sub.f subS
  by_cases c : y = -9223372036854775808
  · simp only [c, if_true]
    refine Ev.step (fun k => ?_) (Ev.now _)
    simp only [fix_F_Sub.j0]
    unfold clampI
    by_cases d : x < 0
    · rw [decide_eq_true d, if_pos rfl, if_neg (by omega), if_neg (by omega), w64 (by omega) (by omega)]
    · rw [decide_eq_false d, if_neg (by simp), if_pos trivial, if_neg (by omega), if_pos (by omega)]
  · simp only [c, if_false]
    have e : wrap64 (-y) = -y := w64 (by omega) (by omega)
    have := Ev.bind (add_ev x (-y) hx' (by unfold I64; omega)) (f := fun _ t => some t) (Ev.now _)
    refine Ev.step (f := fun k => (fix_F_Add.f k x (-y)).bind fun t => some t) (fun k => ?_) this
    simp only [fix_F_Sub.j0, Bool.false_eq_true, if_false, c, e]
theorem mulS_comm (x y : Int) : mulS y x = mulS x y := by
  unfold mulS xneg; rw [Nat.mul_comm, show ((decide (y < 0)) != (decide (x < 0))) = ((decide (x < 0)) != (decide (y < 0))) from by cases decide (y < 0) <;> cases decide (x < 0) <;> rfl]
theorem rneN_one (n : Nat) : rneN (n * 4294967296) = n := by unfold rneN; rw [if_neg (by omega)]; omega
theorem satI_self (x : Int) (hx : I64 x) : satI (decide (x < 0)) x.natAbs = x := by
  unfold I64 at hx; unfold satI
  by_cases c : x < 0
  · rw [decide_eq_true c, if_pos rfl]; split <;> omega
  · rw [decide_eq_false c, if_neg (by simp)]; split <;> omega
theorem mulS_one (x : Int) (hx : I64 x) : mulS x 4294967296 = x := by
  unfold mulS xneg
  rw [show (decide ((4294967296 : Int) < 0)) = false from rfl, Bool.bne_false, show (4294967296 : Int).natAbs = 4294967296 from rfl, rneN_one, satI_self x hx]
theorem mulS_zero (x : Int) : mulS x 0 = 0 := by
  unfold mulS; rw [show (0 : Int).natAbs = 0 from rfl, Nat.mul_zero]; unfold satI rneN; cases xneg x 0 <;> simp
theorem FixProducts : athanorlaw01_FixProducts.Pure := by
  intro x y wx wy
  have hx : I64 x := wf64 wx
  have hy : I64 y := wf64 wy
  refine Ev.rounds (g := fun k => athanorlaw01_FixProducts.f k x y) ?_
  unfold athanorlaw01_FixProducts.f
  refine Ev.bind (mul_ev x y hx hy) (Ev.bind (refMul_ev x y hx hy) ?_)
  simp only [if_true]
  refine Ev.bind (mul_ev y x hy hx) ?_
  simp only [mulS_comm x y, if_true]
  refine Ev.bind (mul_ev x 4294967296 hx (by unfold I64; omega)) ?_
  simp only [mulS_one x hx, if_true]
  refine Ev.bind (mul_ev x 0 hx (by unfold I64; omega)) ?_
  simp only [mulS_zero, if_true]
  exact Ev.bind awake_ev (Ev.now _)
theorem rneD_one (n d : Nat) (h : 1 ≤ d) : rneD (n * d) d = n := by
  unfold rneD; rw [Nat.mul_mod_left, Nat.mul_div_cancel _ (by omega), if_neg (by omega)]
theorem divS_one (x : Int) (hx : I64 x) : divS x 4294967296 = x := by
  unfold divS
  by_cases c : x = 0
  · rw [if_pos c, c]
  · rw [if_neg c, if_neg (by omega), show (4294967296 : Int).natAbs = 4294967296 from rfl, rneD_one _ _ (by omega)]
    unfold xneg
    rw [show (decide ((4294967296 : Int) < 0)) = false from rfl, Bool.bne_false, satI_self x hx]
theorem divS_self (x : Int) (h : ¬ x = 0) : divS x x = 4294967296 := by
  unfold divS
  rw [if_neg h, if_neg h, Nat.mul_comm, rneD_one _ _ (by omega)]
  unfold xneg satI; simp
theorem FixQuotients : athanorlaw01_FixQuotients.Pure := by
  intro x y wx wy
  have hx : I64 x := wf64 wx
  have hy : I64 y := wf64 wy
  refine Ev.rounds (g := fun k => athanorlaw01_FixQuotients.f k x y) ?_
  unfold athanorlaw01_FixQuotients.f
  refine Ev.bind (div_ev x y hx hy) (Ev.bind (refDiv_ev x y hx hy) ?_)
  simp only [if_true]
  refine Ev.bind (div_ev x 4294967296 hx (by unfold I64; omega)) ?_
  simp only [divS_one x hx, if_true]
  by_cases c : x = 0
  · simp only [c, if_true]
    exact Ev.bind awake_ev (Ev.now _)
  · simp only [c, if_false]
    refine Ev.bind (div_ev x x hx hx) ?_
    simp only [divS_self x c, if_true]
    exact Ev.bind awake_ev (Ev.now _)
theorem FixSums : athanorlaw01_FixSums.Pure := by
  intro x y wx wy
  have hx : I64 x := wf64 wx
  have hy : I64 y := wf64 wy
  refine Ev.rounds (g := fun k => athanorlaw01_FixSums.f k x y) ?_
  unfold athanorlaw01_FixSums.f
  refine Ev.bind (add_ev x y hx hy) (Ev.bind (refAdd_ev x y hx hy) ?_)
  simp only [if_true]
  refine Ev.bind (add_ev y x hy hx) ?_
  have e : addS y x = addS x y := by unfold addS; rw [Int.add_comm]
  simp only [e, if_true]
  refine Ev.bind (sub_ev x x hx hx) ?_
  have e0 : (subS x x != 0) = false := by unfold subS clampI; simp
  simp only [e0]
  have hx' := hx; have hy' := hy
  unfold I64 at hx hy
  refine Ev.step (f := fun k => (fix_F_Sub.f k x y).bind fun t224 => (if y = (-9223372036854775808) then (athanorlaw01_FixSums.j1 k x y t224 9223372036854775807 (decide (x < 0))) else (athanorlaw01_FixSums.j1 k x y t224 9223372036854775807 false))) (fun k => by simp only [athanorlaw01_FixSums.j0, Bool.false_eq_true, if_false]) (Ev.bind (sub_ev x y hx' hy') ?_)
  by_cases c : y = -9223372036854775808
  · simp only [c, if_true]
    by_cases d : x < 0
    · refine Ev.step (f := fun k => (athanorlaw01_awake.f k).bind fun t => some t) (fun k => ?_) (Ev.bind awake_ev (Ev.now _))
      simp only [athanorlaw01_FixSums.j1, d, decide_true, if_true]
      rw [if_pos]
      unfold subS clampI wrap64
      rw [if_neg (by omega), if_neg (by omega)]; omega
    · refine Ev.step (f := fun k => (athanorlaw01_awake.f k).bind fun t => some t) (fun k => ?_) (Ev.bind awake_ev (Ev.now _))
      simp only [athanorlaw01_FixSums.j1, d, decide_false, Bool.false_eq_true, if_false, if_true]
      rw [if_pos]
      unfold subS clampI
      rw [if_neg (by omega), if_pos (by omega)]
  · simp only [c, if_false]
    have w : wrap64 (-y) = -y := w64 (by omega) (by omega)
    refine Ev.step (f := fun k => (athanorref01_Add.f k x (-y)).bind fun t227 => (if subS x y = t227 then ((athanorlaw01_awake.f k).bind fun t228 => (some t228)) else (some false))) (fun k => ?_) (Ev.bind (refAdd_ev x (-y) hx' (by unfold I64; omega)) ?_)
    · simp only [athanorlaw01_FixSums.j1, c, Bool.false_eq_true, if_false, w]
    · have : subS x y = addS x (-y) := by unfold subS addS; rw [Int.sub_eq_add_neg]
      simp only [this, if_true]
      exact Ev.bind awake_ev (Ev.now _)
def intS (x : Int) : Int := clampI (x * 4294967296)
theorem int_val (x : Int) (hx : I64 x) : satb ((x.natAbs * 4294967296 % 18446744073709551616 : Nat) : Int) (decide ((x.natAbs : Int) ≥ 2147483649)) (decide (x < 0)) = intS x ∧ satb ((x.natAbs * 4294967296 % 18446744073709551616 : Nat) : Int) (decide ((x.natAbs : Int) ≥ 4294967296)) (decide (x < 0)) = intS x := by
  unfold I64 at hx; unfold satb intS clampI
  have h1 : ((decide ((x.natAbs : Int) ≥ 2147483649) || decide (((x.natAbs * 4294967296 % 18446744073709551616 : Nat) : Int) ≥ 9223372036854775808)) = true) ↔ x.natAbs ≥ 2147483648 := by
    rw [Bool.or_eq_true, decide_eq_true_eq, decide_eq_true_eq]; omega
  have h2 : ((decide ((x.natAbs : Int) ≥ 4294967296) || decide (((x.natAbs * 4294967296 % 18446744073709551616 : Nat) : Int) ≥ 9223372036854775808)) = true) ↔ x.natAbs ≥ 2147483648 := by
    rw [Bool.or_eq_true, decide_eq_true_eq, decide_eq_true_eq]; omega
  simp only [h1, h2, decide_eq_true_eq]
  by_cases c : x < 0
  · simp only [c, if_true]
    by_cases d : x.natAbs ≥ 2147483648
    · rw [if_pos d]
      by_cases e : x * 4294967296 < -9223372036854775808
      · rw [if_pos e]; exact ⟨rfl, rfl⟩
      · rw [if_neg e, if_neg (by omega)]; omega
    · rw [if_neg d, if_neg (by omega), if_neg (by omega)]; omega
  · simp only [c, if_false]
    by_cases d : x.natAbs ≥ 2147483648
    · rw [if_pos d, if_neg (by omega), if_pos (by omega)]; exact ⟨rfl, rfl⟩
    · rw [if_neg d, if_neg (by omega), if_neg (by omega)]; omega
theorem int_ev (x : Int) (hx : I64 x) : Ev (fun k => fix_Int.f k x) (intS x) := by
  unfold fix_Int.f
  rw [size_f hx]
  simp only [Option.bind_some]
  have e : IntKind.u64.wrap ((x.natAbs : Int) * 4294967296) = ((x.natAbs * 4294967296 % 18446744073709551616 : Nat) : Int) := by rw [wu64_mod]; omega
  rw [e, ← (int_val x hx).1]
  exact Ev.bind (signed_ev _ _ _ (by omega) (by omega)) (Ev.now _)
theorem FixWhole : athanorlaw01_FixWhole.Pure := by
  intro x y wx wy
  have hx : I64 x := wf64 wx
  have hy : I64 y := wf64 wy
  refine Ev.rounds (g := fun k => athanorlaw01_FixWhole.f k x y) ?_
  unfold athanorlaw01_FixWhole.f
  refine Ev.bind (int_ev x hx) ?_
  rw [refSize_f hx]
  simp only [Option.bind_some]
  have e : IntKind.u64.wrap ((x.natAbs : Int) * 4294967296) = ((x.natAbs * 4294967296 % 18446744073709551616 : Nat) : Int) := by rw [wu64_mod]; omega
  rw [e]
  refine Ev.bind (held_ev _ _ _ (by omega) (by omega)) ?_
  simp only [(int_val x hx).2, if_true]
  refine Ev.bind (Ratio_ev x y hx hy) (Ev.bind (refDiv_ev x y hx hy) ?_)
  have hx' := hx; have hy' := hy
  unfold I64 at hx hy
  have hj1 : Ev (fun k => athanorlaw01_FixWhole.j1 k y false) true := by
    have aw : Ev (fun k => (athanorlaw01_awake.f k).bind fun t => some t) true := Ev.bind awake_ev (Ev.now _)
    refine Ev.step (fun k => ?_) aw
    have w1 : wrap64 (y / 4294967296 * 4294967296) = y / 4294967296 * 4294967296 := w64 (by omega) (by omega)
    have w2 : IntKind.u64.wrap (wrap64 (y - y / 4294967296 * 4294967296)) < 4294967296 := by rw [w64 (by omega) (by omega), wu64 (by omega) (by omega)]; omega
    have hn1 := neg_f y hy'
    have hn2 := neg_f (clampI (-y)) (clampI_I64 _)
    simp only [athanorlaw01_FixWhole.j1, Bool.false_eq_true, if_false, fix_F_Floor.f, Option.bind_some, w1]
    rw [if_pos (by omega), if_pos w2]
    unfold fix_F_Abs.f
    rw [hn1]
    by_cases c : y < 0
    · rw [if_pos c]
      simp only [Option.bind_some, hn2]
      by_cases d : y = -9223372036854775808
      · have e1 : clampI (-y) = 9223372036854775807 := by rw [d]; rfl
        rw [e1, if_pos (by omega), if_neg (by omega), if_pos trivial, if_pos d]
      · have e1 : clampI (-y) = -y := by unfold clampI; rw [if_neg (by omega), if_neg (by omega)]
        have e2 : clampI (- -y) = y := by unfold clampI; rw [if_neg (by omega), if_neg (by omega)]; omega
        rw [e1, if_pos (by omega), if_neg (by omega), if_pos trivial, if_neg d, e2, if_pos rfl]
    · rw [if_neg c]
      simp only [Option.bind_some, hn2]
      rw [if_pos (by omega), if_pos trivial, if_neg (by omega)]
      have e1 : clampI (-y) = -y := by unfold clampI; rw [if_neg (by omega), if_neg (by omega)]
      have e2 : clampI (- -y) = y := by unfold clampI; rw [if_neg (by omega), if_neg (by omega)]; omega
      rw [e1, e2, if_pos rfl]
  refine Ev.step (fun k => ?_) hj1
  have e0 : (divS x y != divS x y) = false := by simp
  simp only [athanorlaw01_FixWhole.j0, e0, Bool.false_eq_true, if_false, fix_F_Floor.f, Option.bind_some]
  by_cases c : x < 2147483648
  · rw [if_pos c]
    by_cases d : x ≥ -2147483648
    · rw [if_pos d]
      congr 1
      have : intS x = x * 4294967296 := by unfold intS clampI; rw [if_neg (by omega), if_neg (by omega)]
      rw [this, bne_eq_false_iff_eq]; omega
    · rw [if_neg d]
  · rw [if_neg c]
theorem rneN_mono {P Q : Nat} (h : P ≤ Q) : rneN P ≤ rneN Q := by
  unfold rneN; split <;> split <;> omega
theorem satI_mono {M N : Nat} (h : M ≤ N) : satI false M ≤ satI false N ∧ satI true N ≤ satI true M ∧ satI true M ≤ 0 ∧ 0 ≤ satI false M := by
  unfold satI; simp only [Bool.false_eq_true, if_false, if_true]
  refine ⟨?_, ?_, ?_, ?_⟩ <;> (repeat' split) <;> omega
theorem mulS_mono {a b c : Int} (h : a ≤ b) (hc : 0 ≤ c) : mulS a c ≤ mulS b c := by
  unfold mulS xneg
  rw [decide_eq_false (show ¬ c < 0 by omega), Bool.bne_false, Bool.bne_false]
  by_cases ha : a < 0
  · rw [decide_eq_true ha]
    by_cases hb : b < 0
    · rw [decide_eq_true hb]
      exact (satI_mono (rneN_mono (Nat.mul_le_mul_right _ (by omega)))).2.1
    · rw [decide_eq_false hb]
      exact Int.le_trans (satI_mono (Nat.le_refl _)).2.2.1 (satI_mono (Nat.le_refl _)).2.2.2
  · rw [decide_eq_false ha, decide_eq_false (show ¬ b < 0 by omega)]
    exact (satI_mono (rneN_mono (Nat.mul_le_mul_right _ (by omega)))).1
theorem addS_mono {a b c : Int} (h : a ≤ b) : addS a c ≤ addS b c := by unfold addS clampI; (repeat' split) <;> omega
theorem FixOrder : athanorlaw01_FixOrder.Pure := by
  intro x y z wx wy wz
  have hx : I64 x := wf64 wx
  have hy : I64 y := wf64 wy
  have hz : I64 z := wf64 wz
  refine Ev.rounds (g := fun k => athanorlaw01_FixOrder.f k x y z) ?_
  obtain ⟨a, ha⟩ : ∃ a, a = mn x y := ⟨_, rfl⟩
  obtain ⟨b, hb⟩ : ∃ b, b = mx x y := ⟨_, rfl⟩
  obtain ⟨c, hc⟩ : ∃ c, c = mx z 0 := ⟨_, rfl⟩
  have hab : a ≤ b := by rw [ha, hb]; unfold mn mx; split <;> split <;> omega
  have hia : I64 a := by rw [ha]; unfold mn; split <;> assumption
  have hib : I64 b := by rw [hb]; unfold mx; split <;> assumption
  have hc0 : 0 ≤ c := by rw [hc]; unfold mx; split <;> omega
  have hic : I64 c := by rw [hc]; unfold mx; split; (unfold I64; omega); exact hz
  unfold athanorlaw01_FixOrder.f
  rw [← ha, ← hb, ← hc]
  obtain ⟨v, hv⟩ : ∃ v, fix_Clamp.f z a b = some v ∧ a ≤ v ∧ v ≤ b ∧ (v = z ∨ v = a ∨ v = b) ∧ (z < a ∨ z > b ∨ v = z) := by
    unfold fix_Clamp.f
    by_cases h1 : z > b
    · exact ⟨b, by rw [if_pos h1], by omega, by omega, .inr (.inr rfl), .inr (.inl h1)⟩
    · by_cases h2 : z < a
      · exact ⟨a, by rw [if_neg h1, if_pos h2], by omega, by omega, .inr (.inl rfl), .inl h2⟩
      · exact ⟨z, by rw [if_neg h1, if_neg h2], by omega, by omega, .inl rfl, .inr (.inr rfl)⟩
  obtain ⟨v1, v2, v3, v4, v5⟩ := hv
  rw [v1]
  simp only [Option.bind_some]
  refine Ev.bind (mul_ev a c hia hic) (Ev.bind (mul_ev b c hib hic) ?_)
  have h1 := mulS_mono hab hc0
  have h2 := addS_mono (c := z) hab
  simp only [h1, if_true]
  refine Ev.bind (add_ev a z hia hz) (Ev.bind (add_ev b z hib hz) ?_)
  have v2' : v ≥ a := v2
  have aw : Ev (fun k => (athanorlaw01_awake.f k).bind fun t => some t) true := Ev.bind awake_ev (Ev.now _)
  simp only [h2, v2', v3, if_true]
  have done : ∀ g : Nat → Option Bool, (∀ k, g k = (athanorlaw01_awake.f k).bind fun t => some t) → Ev g true := fun g hg => Ev.congr hg aw
  refine done _ (fun k => ?_)
  by_cases e1 : v = z
  · simp only [e1, if_true]; split <;> (try split) <;> rfl
  · simp only [e1, if_false]
    rcases v5 with v5 | v5 | v5
    · rcases v4 with v4 | v4 | v4
      · exact absurd v4 e1
      · simp only [v4, v5, if_true]
      · by_cases e2 : v = a
        · simp only [e2, v5, if_true]
        · simp only [e2, v4, v5, if_true, if_false]; split <;> rfl
    · have n : ¬ z < a := by omega
      rcases v4 with v4 | v4 | v4
      · exact absurd v4 e1
      · simp only [v4, v5, n, if_true, if_false]
      · by_cases e2 : v = a
        · simp only [e2, v5, n, if_true, if_false]
        · simp only [e2, v4, v5, n, if_true, if_false]; split <;> rfl
    · exact absurd v5 e1
/-- Sums from s on; dot products from s on. -/
def sumL (s : Int) : List Int → Int
  | [] => s
  | x :: t => sumL (addS s x) t
def dotL (s : Int) : List Int → List Int → Int
  | x :: t, y :: u => dotL (addS s (mulS x y)) t u
  | _, _ => s
theorem I64_of {l : List Int} (h : ∀ x ∈ l, (Lit.int .i64 x).wf = true) {t : List Int} {i : Nat} {x : Int} (hd : l.drop i = x :: t) : I64 x :=
  wf64 (h x (List.mem_of_mem_drop (by rw [hd]; exact List.mem_cons_self)))
theorem addS_I64 (x y : Int) : I64 (addS x y) := clampI_I64 _
theorem sum_ev (l : List Int) (hn : l.length ≤ 140737488351232) (hl : ∀ x ∈ l, (Lit.int .i64 x).wf = true) : ∀ (t : List Int) (i : Nat) (s : Int), I64 s → l.drop i = t →
    Ev (fun k => fix_Sum.l0 k s l (l.length : Int) (i : Int)) (sumL s t) := by
  intro t
  induction t with
  | nil =>
    intro i s hs h
    have := drop_nil h
    refine Ev.step (fun k => ?_) (Ev.now _)
    simp only [fix_Sum.l0]; rw [if_neg (by omega)]; rfl
  | cons x t ih =>
    intro i s hs h
    obtain ⟨g1, g2, g3⟩ := drop_cons h
    have hx := I64_of hl h
    refine Ev.step (f := fun k => (fix_F_Add.f k s x).bind fun t147 => fix_Sum.l0 k t147 l (l.length : Int) ((i + 1 : Nat) : Int)) (fun k => ?_) (Ev.bind (add_ev s x hs hx) (ih (i + 1) _ (addS_I64 _ _) g3))
    simp only [fix_Sum.l0]; rw [if_pos (by omega), if_pos (by omega), if_pos (by omega), g2, w64s g1 hn]
theorem dot_ev (a b : List Int) (hn : a.length ≤ 140737488351232) (hm : b.length ≤ 140737488351232) (ha : ∀ x ∈ a, (Lit.int .i64 x).wf = true) (hb : ∀ x ∈ b, (Lit.int .i64 x).wf = true) (m : Nat) (hm' : m = min a.length b.length) :
    ∀ (t u : List Int) (i : Nat) (s : Int), I64 s → a.drop i = t → b.drop i = u →
    Ev (fun k => fix_Dot.l0 k a b s (m : Int) (i : Int)) (dotL s t u) := by
  intro t
  induction t with
  | nil =>
    intro u i s hs h h'
    have := drop_nil h
    refine Ev.step (fun k => ?_) (Ev.now _)
    simp only [fix_Dot.l0]; rw [if_neg (by omega)]; unfold dotL; rfl
  | cons x t ih =>
    intro u i s hs h h'
    obtain ⟨g1, g2, g3⟩ := drop_cons h
    have hx := I64_of ha h
    cases u with
    | nil =>
      have := drop_nil h'
      refine Ev.step (fun k => ?_) (Ev.now _)
      simp only [fix_Dot.l0]; rw [if_neg (by omega)]; unfold dotL; rfl
    | cons y u =>
      obtain ⟨k1, k2, k3⟩ := drop_cons h'
      have hy := I64_of hb h'
      refine Ev.step (f := fun k => (fix_F_Mul.f k x y).bind fun t207 => ((fix_F_Add.f k s t207).bind fun t208 => (fix_Dot.l0 k a b t208 (m : Int) ((i + 1 : Nat) : Int)))) (fun k => ?_) (Ev.bind (mul_ev x y hx hy) (Ev.bind (add_ev s _ hs (mulS_I64 _ _)) (ih u (i + 1) _ (addS_I64 _ _) g3 k3)))
      simp only [fix_Dot.l0]; rw [if_pos (by omega), if_pos (by omega), if_pos (by omega), if_pos (by omega), g2, k2, w64s g1 hn]
theorem lists1 (a b : List Int) (hn : a.length ≤ 140737488351232) (hm : b.length ≤ 140737488351232) (ha : ∀ x ∈ a, (Lit.int .i64 x).wf = true) (hb : ∀ x ∈ b, (Lit.int .i64 x).wf = true) (m : Nat) (hm' : m = min a.length b.length) :
    ∀ (t u : List Int) (i : Nat) (s : Int), I64 s → a.drop i = t → b.drop i = u → dotL s t u = dotL 0 a b →
    Ev (fun k => athanorlaw01_FixLists.l1 k a b (sumL 0 a) s (m : Int) (i : Int)) true := by
  have last : ∀ s, s = dotL 0 a b → Ev (fun k => (fix_Sum.f k a).bind fun t216 => (if t216 = sumL 0 a then ((fix_Dot.f k a b).bind fun t217 => (if t217 = s then ((athanorlaw01_awake.f k).bind fun t218 => (some t218)) else (some false))) else (some false))) true := by
    intro s hs
    unfold fix_Sum.f fix_Dot.f
    refine Ev.bind (sum_ev a hn ha a 0 0 (by unfold I64; omega) rfl) ?_
    simp only [if_true]
    have e : mn (a.length : Int) (b.length : Int) = (m : Int) := by unfold mn; split <;> omega
    rw [e]
    refine Ev.bind (dot_ev a b hn hm ha hb m hm' a b 0 0 (by unfold I64; omega) rfl rfl) ?_
    simp only [hs, if_true]
    exact Ev.bind awake_ev (Ev.now _)
  intro t
  induction t with
  | nil =>
    intro u i s hs h h' he
    have := drop_nil h
    refine Ev.step (fun k => ?_) (last s (by rw [← he]; unfold dotL; rfl))
    simp only [athanorlaw01_FixLists.l1]; rw [if_neg (by omega)]
  | cons x t ih =>
    intro u i s hs h h' he
    obtain ⟨g1, g2, g3⟩ := drop_cons h
    have hx := I64_of ha h
    cases u with
    | nil =>
      have := drop_nil h'
      refine Ev.step (fun k => ?_) (last s (by rw [← he]; unfold dotL; rfl))
      simp only [athanorlaw01_FixLists.l1]; rw [if_neg (by omega)]
    | cons y u =>
      obtain ⟨k1, k2, k3⟩ := drop_cons h'
      have hy := I64_of hb h'
      refine Ev.step (f := fun k => (athanorref01_Mul.f k x y).bind fun t214 => ((athanorref01_Add.f k s t214).bind fun t215 => (athanorlaw01_FixLists.l1 k a b (sumL 0 a) t215 (m : Int) ((i + 1 : Nat) : Int)))) (fun k => ?_) (Ev.bind (refMul_ev x y hx hy) (Ev.bind (refAdd_ev s _ hs (mulS_I64 _ _)) (ih u (i + 1) _ (addS_I64 _ _) g3 k3 he)))
      simp only [athanorlaw01_FixLists.l1]; rw [if_pos (by omega), if_pos (by omega), if_pos (by omega), if_pos (by omega), g2, k2, w64s g1 hn]
theorem lists0 (a b : List Int) (hn : a.length ≤ 140737488351232) (hm : b.length ≤ 140737488351232) (ha : ∀ x ∈ a, (Lit.int .i64 x).wf = true) (hb : ∀ x ∈ b, (Lit.int .i64 x).wf = true) :
    ∀ (t : List Int) (i : Nat) (s : Int), I64 s → a.drop i = t → sumL s t = sumL 0 a →
    Ev (fun k => athanorlaw01_FixLists.l0 k a b s 0 a (a.length : Int) (i : Int)) true := by
  intro t
  induction t with
  | nil =>
    intro i s hs h he
    have := drop_nil h
    have e : s = sumL 0 a := by rw [← he]; rfl
    have em : mn (a.length : Int) (b.length : Int) = ((min a.length b.length : Nat) : Int) := by unfold mn; split <;> omega
    refine Ev.step (fun k => ?_) (lists1 a b hn hm ha hb _ rfl a b 0 0 (by unfold I64; omega) rfl rfl rfl)
    simp only [athanorlaw01_FixLists.l0]; rw [if_neg (by omega), em, ← e]; rfl
  | cons x t ih =>
    intro i s hs h he
    obtain ⟨g1, g2, g3⟩ := drop_cons h
    have hx := I64_of ha h
    refine Ev.step (f := fun k => (athanorref01_Add.f k s x).bind fun t211 => athanorlaw01_FixLists.l0 k a b t211 0 a (a.length : Int) ((i + 1 : Nat) : Int)) (fun k => ?_) (Ev.bind (refAdd_ev s x hs hx) (ih (i + 1) _ (addS_I64 _ _) g3 he))
    simp only [athanorlaw01_FixLists.l0]; rw [if_pos (by omega), if_pos (by omega), if_pos (by omega), g2, w64s g1 hn]
theorem FixLists : athanorlaw01_FixLists.Pure := by
  intro a b _ ha8 ha _ hb8 hb
  refine Ev.rounds (g := fun k => athanorlaw01_FixLists.f k a b) ?_
  have aw : Ev (fun k => (athanorlaw01_awake.f k).bind fun t => some t) true := Ev.bind awake_ev (Ev.now _)
  have hj : ∀ e : Bool, Ev (fun k => athanorlaw01_FixLists.j0 k a b e) true := by
    intro e
    cases e with
    | true => exact Ev.step (fun k => by simp only [athanorlaw01_FixLists.j0, if_true]) aw
    | false => exact Ev.step (fun k => by simp only [athanorlaw01_FixLists.j0, Bool.false_eq_true, if_false]; rfl) (lists0 a b (by omega) (by omega) ha hb a 0 0 (by unfold I64; omega) rfl rfl)
  unfold athanorlaw01_FixLists.f
  by_cases c : (a.length : Int) > 200
  · simp only [c, if_true]; exact hj true
  · simp only [c, if_false]; exact hj _
end Go.Proofs.Ytgaiaidigdennaa.LawsFix
