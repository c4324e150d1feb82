/- What is fed is taken in order: the walk of OrderFeeds, by hand. Conditions: those of the row. -/
import Derived.Test.YtkbonmhegojfdaaPOrdAw
set_option linter.unusedVariables false
set_option linter.unusedSimpArgs false
namespace Go.Proofs.Ytkbonmhegojfdaa.Feeds
open Go.RowKit Go.Shelf Go.Proofs Go.Proofs.Ytkbonmhegojfdaa.POrd Go.Proofs.Ytkbonmhegojfdaa.Bat Go.Proofs.Ytkbonmhegojfdaa.Chan Go.Proofs.Ytkbonmhegojfdaa.Awk Go.Proofs.YtkbonmhegojfdaaW.PrintWords Go.Proofs.YtkbonmhegojfdaaW.PrintLast Go.Proofs.YtkbonmhegojfdaaW.PrintMore Go.Proofs.Ytkbonmhegojfdaa.XW
theorem max2_mx (k k' : IntKind) (x y : Int) : Builtin.max2 (.int k x) (.int k' y) = pure (.int k (mx x y)) := max2_int k k' x y
theorem min2_mn (k k' : IntKind) (x y : Int) : Builtin.min2 (.int k x) (.int k' y) = pure (.int k (mn x y)) := min2_int k k' x y
attribute [local go_sem] max2_mx min2_mn max_two min_two chan_nil
theorem feedC (w : World) (A : Option Addr) (cap : Nat) (l : List Int) (hl : l.length ≤ 200) (hC : (Kd.int .u64).C w A l.length l) : Calls Try.prog 16 #[.slice A l.length cap] w fun e w' => ∃ cb, e = .returned (.chan (some cb)) ∧ w.heap.size ≤ cb ∧ w'.heap[cb]? = some (.chan l.length (l.map (Value.int .u64)).toArray true l.length 0 false) ∧ Below w.heap.size w w' := by
  refine (feed_any w A cap l (by omega) (fun hp => ?_)).mono ?_
  · obtain ⟨ad, e, hc⟩ := hC.2.2 hp
    refine ⟨ad, e, fun j hj => ?_⟩
    obtain ⟨cc, h3, h2, h4⟩ := hc j (l.getD j 0) (by rw [List.getD_eq_getElem?_getD, List.getElem?_eq_getElem hj]; rfl)
    have h5 : cc = [.int .u64 (l.getD j 0)] := h2
    subst h5
    have := h4 0 _ rfl
    rwa [show j * (Kd.int IntKind.u64).sz + 0 = j from Nat.mul_one j] at this
  · rintro e w' ⟨rfl, hc, hb⟩
    exact ⟨_, rfl, Nat.le_refl _, hc, hb⟩
/-- What is taken, in short: the first m things; the others stay. -/
theorem takeC {w : World} {cb cap s r : Nat} {tm : Bool} (l : List Int) (n : Int) (m : Nat) (hl : l.length ≤ 200) (hm : m = min n.toNat l.length) (hc : w.heap[cb]? = some (.chan cap (l.map (Value.int .u64)).toArray true s r tm)) :
    Calls Try.prog 17 #[.chan (some cb), .int .i64 n] w fun e w' => ∃ (v : Value) (r1 : Nat), e = .returned v ∧ (Kd.R (Kd.int .u64) 41) w' w.heap.size (fun _ => True) v (l.take m) ∧ w'.heap[cb]? = some (.chan cap ((l.drop m).map (Value.int .u64)).toArray true s r1 tm) ∧ OffC cb w w' := by
  refine (take_some w cb cap s r tm l n (by omega) hc).mono ?_
  rintro e w' ⟨v, m', r1, rfl, h1, hr, h2, ho⟩
  subst h1 hm
  exact ⟨v, r1, rfl, hr, h2, ho⟩
theorem rowU {w : World} {b : Nat} {v : Value} {l : List Int} {k : Nat} (h : (Kd.R (Kd.int .u64) 41) w b (fun _ => True) v l) (hk : l.length = k) : ∃ A c, v = .slice A k c ∧ k ≤ c := by
  obtain ⟨A, c, rfl⟩ := Kd.R_slice h
  exact ⟨A, c, by rw [hk], by rw [← hk]; exact (Kd.R_reads' h).2.1⟩
set_option maxRecDepth 100000 in
set_option maxHeartbeats 4000000 in
theorem walk (w : World) (A : Option Addr) (cap : Nat) (l : List Int) (n : Int) (hC : (Kd.int .u64).C w A l.length l) (hcap : l.length ≤ cap) : Calls Try.prog 6 #[.slice A l.length cap, .int .i64 n] w fun e w' => e = .returned (.bool true) ∧ Below w.heap.size w w' := by
  have HB := Aside0.mk (Below.refl w.heap.size w)
  have HC0 := Aside0.mk hC
  clear hC
  by_cases c : 200 < (l.length : Int)
  · have cb0 : decide (200 < (l.length : Int)) = true := decide_eq_true c
    clear c
    go_enter Try.func6, Try.ntmps6
    go_wp2_with ((go_at_call 8; (with_reducible refine (Awk.walk _).mono ?_); rintro e w1 ⟨rfl, hb⟩; have HB1 := Aside0.mk (below_step HB.out hb)))
    go_ret
    exact ⟨rfl, HB1.out⟩
  · have cb0 : decide (200 < (l.length : Int)) = false := decide_eq_false c
    have HL := Aside0.mk (show l.length ≤ 200 by omega)
    clear c
    obtain ⟨m, hm⟩ : ∃ m, m = min n.toNat l.length := ⟨_, rfl⟩
    have HM := Aside0.mk hm
    clear hm
    go_enter Try.func6, Try.ntmps6
    go_wp2_with ((go_at_call 16; (with_reducible refine (feedC w A cap l HL.out HC0.out).mono ?_); rintro e w1 ⟨cb, rfl, hcb, hc, hb⟩; have HB1 := Aside0.mk hb; have HCB := Aside0.mk hcb; have HC := Aside0.mk hc; clear hb hcb hc HB))
    go_wp2_with ((go_at_call 17; (with_reducible refine (take_nil _ _).mono ?_); rintro e w' ⟨rfl, rfl⟩))
    go_wp2_with ((go_at_call 17; (with_reducible refine (takeC l n m HL.out HM.out HC.out).mono ?_); rintro e w2 ⟨v2, r2, rfl, hr, hc, ho⟩; have HO1 := Aside0.mk (Kd.R_lower hr (below_size HB1.out)); have HB := Aside0.mk (offB HB1.out ho (Nat.le_refl _) HCB.out); have HC2 := Aside0.mk hc; clear hr hc ho HC HB1))
    have hmle : m ≤ l.length := by have := HM.out; omega
    obtain ⟨q, hq⟩ : ∃ q, l.length - m = q := ⟨_, rfl⟩
    have HQ := Aside0.mk (show l.length = m + q by omega)
    have HD := Aside0.mk (show (l.drop m).length = q by rw [List.length_drop]; exact hq)
    have hb1 : ((m : Int) != mn (mx n 0) (l.length : Int)) = false := by
      have h := HM.out
      rw [bne_eq_false_iff_eq]
      unfold mn mx
      split <;> split <;> omega
    have hb2 : (wrap64 ((m : Int) + (q : Int)) != (l.length : Int)) = false := by
      have h := HQ.out
      have h' := HL.out
      rw [bne_eq_false_iff_eq]
      unfold wrap64
      omega
    clear hmle hq
    obtain ⟨A2, c2, e2, hc2⟩ := rowU (k := m) HO1.out (by have := HQ.out; rw [List.length_take]; omega)
    subst e2
    go_wp2_with ((go_at_call 17; (with_reducible refine (takeC (l.drop m) 1000 q (by have := HL.out; have := HD.out; have := HQ.out; omega) (by have := HL.out; have := HD.out; have := HQ.out; omega) HC2.out).mono ?_); rintro e w3 ⟨v3, r3, rfl, hr, hc, ho⟩; rw [List.take_of_length_le (by rw [HD.out]; omega)] at hr; rw [List.drop_of_length_le (by rw [HD.out]; omega)] at hc; have HO2 := Aside0.mk (Kd.R_lower hr (below_size HB.out)); have HO3 := Aside0.mk (offR ho HC2.out rfl HO1.out); have HB1 := Aside0.mk (offB HB.out ho (Nat.le_refl _) HCB.out); have HC := Aside0.mk hc; clear hr hc ho HC2 HB HO1; obtain ⟨A3, c3, e3, hc3⟩ := rowU (k := q) HO2.out HD.out; subst e3))
    have HLm := Aside0.mk (show (l.take m).length = m by have := HQ.out; rw [List.length_take]; omega)
    go_wp2_with (first | (go_at_call 17; (with_reducible refine (takeC [] 1 0 (by decide) (by decide) HC.out).mono ?_); rintro e w4 ⟨v4, r4, rfl, hr, hc, ho⟩; have HO1 := Aside0.mk (offR ho HC.out rfl HO2.out); have HO4 := Aside0.mk (offR ho HC.out rfl HO3.out); have HB := Aside0.mk (offB HB1.out ho (Nat.le_refl _) HCB.out); obtain ⟨A4, c4, e4, hc4⟩ := rowU (k := 0) hr rfl; subst e4; clear hr hc ho HC HB1 HO2 HO3) | ((with_reducible refine gate_dst (N := 52) rfl ?_); refine Kd.R_lit (Kd.int .u64) _ 41 ?hg (N := 52) ?hd (xs := ([] : List Int)) (inner := []) (ok := fun _ => True) (okp := fun _ => True) ?hr ?hp (fun _ hk => hk) trivial (Below.refl _ _) (Nat.le_refl _) (by simp) ?_; (case hd => rfl); (case hg => rfl); (case hr => first | (go_simp; done) | (go_simp; rfl)); (case hp => exact (Reps.none _ _)); intro v5 w5 ho hb hg_ hnew_; have HO2 := Aside0.mk (Kd.R_lower ho (below_size HB.out)); have HO5 := Aside0.mk (Kd.R_elder' HO1.out (Kd.R_base ho) hb); have HO6 := Aside0.mk (Kd.R_below HO4.out hb); have HB1 := Aside0.mk (below_step HB.out hb); clear HB HO1 HO4 ho hb hg_ hnew_) | ((with_reducible refine gate_builtin (b := .append) (xs := #[.tmp 52, .tmp 53]) rfl ?_); at_builtin; refine Kd.R_append_rows (Kd.int .u64) (w0 := w) w.heap.size rfl (.tmp 52) (.tmp 53) 22 41 (.int .u64 0) 8 rfl Try.underlying22 POrd.info41 rfl (by decide) (by omega) v5 [] (l.take m) _ _ _ (fun _ => True) (fun _ => False) rfl rfl ?aO ?aR (fun _ _ h => h) (fun _ h => h.elim) ?aF ?aB ?aS ?aL ?_; (case aR => have hx := (Kd.R_reads' HO6.out).2.2; rw [HLm.out] at hx; exact hx); (case aB => exact HB1.out); (case aF => exact (fun _ _ => trivial)); (case aO => exact HO2.out); (case aS => exact below_size HB1.out); (case aL => have := HL.out; have := HQ.out; simp only [List.length_nil]; omega); intro v6 w6 ho hb hg hat; have HO7 := Aside0.mk (Kd.R_after HO5.out hg hat); have HO8 := Aside0.mk ho; have HB := Aside0.mk hb; clear HO2 HO5 HO6 HB1 ho hb hg hat) | ((with_reducible refine gate_builtin (b := .append) (xs := #[.tmp 54, .tmp 55]) rfl ?_); at_builtin; refine Kd.R_append_rows (Kd.int .u64) (w0 := w) w.heap.size rfl (.tmp 54) (.tmp 55) 22 41 (.int .u64 0) 8 rfl Try.underlying22 POrd.info41 rfl (by decide) (by omega) v6 ([] ++ l.take m) (l.drop m) _ _ _ (fun _ => True) (fun _ => False) rfl rfl ?aO ?aR (fun _ _ h => h) (fun _ h => h.elim) ?aF ?aB ?aS ?aL ?_; (case aR => have hx := (Kd.R_reads' HO7.out).2.2; rw [HD.out] at hx; exact hx); (case aB => exact HB.out); (case aF => exact (fun _ _ => trivial)); (case aO => exact HO8.out); (case aS => exact below_size HB.out); (case aL => have := HL.out; have := HQ.out; have := HLm.out; rw [List.nil_append]; omega); intro v7 w7 ho hb hg hat; rw [List.nil_append, List.take_append_drop] at ho; have HO1 := Aside0.mk ho; have HB1 := Aside0.mk hb; clear HO7 HO8 HB ho hb hg hat; obtain ⟨A7, c7, e7, hc7⟩ := rowU (k := l.length) HO1.out rfl; subst e7))
    go_loopw [58] (fun v58 wr => ∃ x : Int, v58 = .int .i64 x ∧ Aside0 (0 ≤ x ∧ x ≤ (l.length : Int)) ∧ Aside0 ((Kd.R (Kd.int .u64) 41) wr w.heap.size (fun _ => True) (.slice A7 l.length c7) l) ∧ Aside0 (Below w.heap.size w wr)) (fun v58 _ => l.length - (intOf v58).toNat)
    case atStart => exact ⟨0, rfl, ⟨by omega⟩, HO1, HB1⟩
    case round =>
      clear HO1 HB1
      obtain ⟨x, rfl, HI, HO1, HB1⟩ := hrel
      by_cases ci : x < (l.length : Int)
      · have cb1 : decide (x < (l.length : Int)) = true := decide_eq_true ci
        have p0 : 0 ≤ x := HI.out.1
        obtain ⟨ad, e1, hx1⟩ := Kd.at_int HC0.out x p0 ci
        cases e1
        replace hx1 := (HB1.out.cell (World.block_lt_of_cell? w _ hx1)).trans hx1
        obtain ⟨ad7, e7, hx7⟩ := Kd.at_int (Kd.R_reads' HO1.out).2.2 x p0 ci
        cases e7
        have HI1 := Aside0.mk ci
        have E8 := Aside0.mk (show wrap64 (x + 1) = x + 1 by have := HL.out; unfold wrap64; omega)
        replace p0 := eq_true p0
        replace ci := eq_true ci
        as_aux_lemma =>
          go_wp2
          go_roundw
          case measure => have h1 := HI1.out; have h2 := HI.out; have h3 := E8.out; simp only [intOf]; rw [h3]; omega
          case rel => exact ⟨wrap64 (x + 1), rfl, ⟨by have h1 := HI1.out; have h2 := HI.out; rw [E8.out]; omega⟩, HO1, HB1⟩
      · have cb1 : decide (x < (l.length : Int)) = false := decide_eq_false ci
        as_aux_lemma =>
          go_wp2_with ((go_at_call 8; (with_reducible refine (Awk.walk _).mono ?_); rintro e w8 ⟨rfl, hb⟩; have HB := Aside0.mk (below_step HB1.out hb)))
          go_ret
          exact ⟨rfl, HB.out⟩
end Go.Proofs.Ytkbonmhegojfdaa.Feeds
