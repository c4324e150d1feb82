/- The two loops of law ShapeAll: no place is told of what is no shape; the first places are told in order. Conditions: at most 50 sides; at most 500 places are asked. -/
import Derived.Test.YtdefilnjkacepaaAll
import Derived.Test.YtdefilnjkacepaaNext
import Derived.Test.YtdefilnjkacepaaAidDigs
set_option linter.unusedVariables false
set_option linter.unusedSimpArgs false
namespace Go.Proofs.Ytdefilnjkacepaa.AllL
open Go.RowKit Go.Shelf Go.Proofs Go.Proofs.Ytdefilnjkacepaa.PAll Go.Proofs.Ytdefilnjkacepaa.Fresh Go.Proofs.Ytdefilnjkacepaa.Auto Go.Proofs.Ytdefilnjkacepaa.AllW Go.Proofs.Ytdefilnjkacepaa.AidShape Go.Proofs.Ytdefilnjkacepaa.AidDigs Go.Proofs.Ytdefilnjkacepaa.AidRound Go.Proofs.YtdefilnjkacepaaW.PrintWords Go.Proofs.YtdefilnjkacepaaW.PrintLast Go.Proofs.YtdefilnjkacepaaW.PrintMore
attribute [local go_sem] Oper.semAt_some max2_int min2_int max_two min_two
def noneF (l : List Int) : Option Bool := if l.length ≤ 50 ∧ rightS l = false then some true else none
def walkF (l : List Int) (stop : Int) : Option Bool := if l.length ≤ 50 ∧ rightS l = true ∧ 1 ≤ stop ∧ stop ≤ 500 then some true else none
/-- The result's box is true, and nothing that lay before has turned. -/
theorem results_bool {P : Program} {fn : Func} {p : Tmp} {ty : TypeId} (h : fn.results = #[.cell p ty]) (hu : P.underlying ty = some .bool) (tmps : Array Value) (w : World) (g : Nat) (v : Value)
    (hp : tmps.getD p undef = .pointer (some ⟨g, 0, none⟩)) (hc : w.cell? ⟨g, 0, none⟩ = some v) : (results fn tmps).run P w = .ok v w := by
  unfold results
  rw [h, List.mapM_toArray, List.mapM_cons, List.mapM_nil]
  have hg := run_isAgg_plain hu rfl w
  simp [asAddr, hp, loadVar, hg, hc, go_sem]
/-- What holds where a function with a range over a function returns. -/
theorem cell_end {W : World} {g D t : Nat} {u v : Value} (h : Boxed W g t u) (hD : g ≠ D) (o : Obj) : ((W.setCell ⟨g, 0, none⟩ v).putObj D o).cell? ⟨g, 0, none⟩ = some v := by
  have h1 := (h.set v).cell
  unfold World.cell? at h1 ⊢
  rw [World.putObj_heap_other hD]
  exact h1
theorem own_box (n₀ B g t : Nat) (v : Value) (w : World) (hn : n₀ ≤ w.heap.size) (hB : n₀ ≤ B) : OwnFrom B (fun (_ : Nat) W => Boxed W g t v ∧ Below n₀ w W) :=
  OwnFrom.and ((boxed_own g t (fun _ : Nat => v)).from B) (ownFrom_below hn hB)
set_option maxRecDepth 100000 in
set_option maxHeartbeats 4000000 in
theorem none_calls (A0 : Option Addr) (c0 : Nat) (l0 : List Int) (r : Bool) (w : World) (hr0 : Kd.C (Kd.int .i64) w A0 l0.length l0) (hc0 : l0.length ≤ c0) (h : noneF l0 = some r) :
    Calls Try.prog 23 #[.slice A0 l0.length c0] w fun e w' => e = .returned (.bool r) ∧ Below w.heap.size w w' := by
  unfold noneF at h
  split at h
  case isFalse => cases h
  case isTrue hk =>
  obtain rfl := Option.some.inj h
  obtain ⟨fuel, hfuel⟩ := at_fuel l0 (by omega)
  have h0 : AtW.f fuel l0 ((0 : Nat) : Int) = some ([], 20) := by rw [hfuel]; unfold atS; rw [hk.2]; rfl
  have HK := Aside0.mk (And.intro hk (And.intro h0 hr0))
  clear h hk hfuel h0 hr0
  refine (callsIn_wide (n := 4)).1 ?_
  refine callsIn_of_wp_marks Try.func23 rfl trivial ?_ rfl
  simp only [Try.ntmps23, List.size_toArray, List.length_cons, List.length_nil, Nat.reduceAdd, Nat.reduceSub, Array.replicate_succ, Array.replicate_zero, List.push_toArray, List.append_toArray, List.nil_append, List.cons_append]
  gi_wp2_with (refine ⟨trivial, ?_⟩; gi_at_call 34; refine (callsIn_wide.2 (all_any A0 c0 l0 _ (Kd.C_alloc HK.out.2.2 _) hc0 (by have := HK.out.1.1; omega))).mono ?_; rintro e w1 ⟨Bs, A1, c1, rfl, hB0, hB1, hc1, hR1, hb1⟩)
  have hcs := Kd.R_reads' hR1
  have hgt : (w.alloc (.cells #[.bool false] 4)).heap.size = w.heap.size + 1 := World.size_alloc _ _
  have hbx : Boxed w1 w.heap.size 4 (.bool false) := (hb1.block _ (by omega)).trans (Boxed.new w 4 (.bool false))
  have hbl : Below w.heap.size w w1 := below_step (belA w _) hb1
  have hlt1 : w.heap.size < w1.heap.size := hbx.lt
  have HI := Aside0.mk (And.intro hbx hbl)
  clear hbx hb1 hgt
  refine range_out (n := 4) (α := Nat × Value) rfl (by omega) (gf := 40) (lb := #[.pointer (some ⟨Bs, 0, none⟩)]) rfl trivial (enters_of Try.func40 (by kernel_rfl) rfl)
    (all_seq 3 (by omega) fuel 0 (fun _ => []) 20 (by decide) (by omega) w1.heap.size Bs A1 c1 l0 (fun _ => False) w1 hB1 hcs.2.2 hc1 hB1.lt (fun h => h) (fun ad e hp => ⟨C_lt hcs.2.2 ad e hp, fun h => h⟩) (fun k hk => by omega) HK.out.2.1)
    (fun _ => rfl) (fun k x X Y h => h.grown)
    (fun _ W => Boxed W w.heap.size 4 (.bool false) ∧ Below w.heap.size w W) (fun _ _ _ => False) (fun _ _ _ _ => False) (own_box _ _ _ _ _ _ (Nat.le_refl _) hbl.size) (fun _ _ _ _ _ h _ _ => h) (fun _ _ _ _ _ _ _ h _ _ => h) HI.out ?assign ?body ?done ?stop
  case assign =>
    intro l k x X Y K hI hP
    exact absurd hP.lt (by omega)
  case body =>
    intro l k x a' W hl hr hA
    exact hA.elim
  case done =>
    rintro D k W hD hk ⟨h1, h2⟩ hW
    have hc1' := h1.cell
    have hf1 := h1.frozen
    have HB := Aside0.mk (And.intro h1 (And.intro h2 (And.intro (show w.heap.size < D by omega) hW)))
    clear h1 h2 hD hW hbl hlt1 HI hB1 hcs hR1 HK
    gi_wp2
    obtain ⟨h1, h2, hD, hW⟩ := HB.out
    have hne : D ≠ w.heap.size := by omega
    refine ⟨by simp, .inl ⟨_, _, rfl, run_takeDeferred ((Below.heap_setCell _ _ _ D hne).trans hW), ?_⟩⟩
    refine ⟨.bool true, results_bool rfl Try.underlying4 _ _ w.heap.size _ rfl (cell_end h1 (by omega) _), rfl, ?_⟩
    have h3 := h2.setCell (p := ⟨w.heap.size, 0, none⟩) (Nat.le_refl _) (Value.bool true)
    exact h3.grown (grownBy_putObj' _ D _) (Nat.le_trans h3.size (Nat.le_refl _)) (fun k e => by cases e; omega)
  case stop =>
    rintro D c k W _ _ h _
    exact h.elim
-- BEGIN walk
theorem bx {W W' : World} {g t : Nat} {v : Value} (h : Boxed W g t v) (hb : Below W.heap.size W W') : Boxed W' g t v := (hb.block g h.lt).trans h
/-- What the loop's rounds find: the shape, how many are asked, the result, how many have come, and the place that is wanted. -/
structure IW (w : World) (A0 : Option Addr) (c0 : Nat) (l0 : List Int) (a1 : Int) (wl : Nat → List Int) (k : Nat) (W : World) : Prop where
  bs : Boxed W w.heap.size 23 (.slice A0 l0.length c0)
  bn : Boxed W (w.heap.size + 1) 3 (.int .i64 a1)
  br : Boxed W (w.heap.size + 1 + 1) 4 (.bool false)
  bk : Boxed W (w.heap.size + 1 + 1 + 1 + 1 + 1) 3 (.int .i64 (k : Int))
  below : Below w.heap.size w W
  bw : ∃ A c, Boxed W (w.heap.size + 1 + 1 + 1 + 1) 22 (.slice A (wl k).length c) ∧ Kd.R (Kd.int .i64) 3 W w.heap.size (fun b => b ≠ w.heap.size + 1 + 1 + 1 + 1 ∧ b ≠ w.heap.size + 1 + 1 + 1 + 1 + 1) (.slice A (wl k).length c) (wl k)
theorem IW.step {w : World} {A0 : Option Addr} {c0 : Nat} {l0 : List Int} {a1 : Int} {wl : Nat → List Int} {k : Nat} {W W' : World} (h : IW w A0 c0 l0 a1 wl k W) (hb : Below W.heap.size W W') : IW w A0 c0 l0 a1 wl k W' := by
  obtain ⟨A, c, h1, h2⟩ := h.bw
  exact ⟨bx h.bs hb, bx h.bn hb, bx h.br hb, bx h.bk hb, below_step h.below hb, A, c, bx h1 hb, Kd.R_below h2 hb⟩
theorem IW.own (w : World) (A0 : Option Addr) (c0 : Nat) (l0 : List Int) (a1 : Int) (wl : Nat → List Int) (B : Nat) (hB : w.heap.size ≤ B) : OwnFrom B (IW w A0 c0 l0 a1 wl) := by
  intro k W W' row h hg hr
  have hk := fun r e => (hr r e).2
  obtain ⟨A, c, h1, h2⟩ := h.bw
  refine ⟨(AtW.cells_kept hg hk h.bs).trans h.bs, (AtW.cells_kept hg hk h.bn).trans h.bn, (AtW.cells_kept hg hk h.br).trans h.br, (AtW.cells_kept hg hk h.bk).trans h.bk, ownFrom_below (β := Unit) (Nat.le_refl _) hB () W W' row h.below hg hr, A, c, (AtW.cells_kept hg hk h1).trans h1, ?_⟩
  refine Kd.R_mono (Kd.R_move (Kd.R_bound h2) (fun k hk' => ?_)) (fun _ hk' => hk'.1)
  obtain ⟨_, _, _, q, _, cells, hc⟩ := hk'
  exact AtW.cells_kept hg hk hc
/-- How a round leaves the memory. -/
theorem IW.next {w : World} {A0 : Option Addr} {c0 : Nat} {l0 : List Int} {a1 : Int} {wl : Nat → List Int} {k B : Nat} {W W2 : World} {A : Option Addr} {c : Nat} (h : IW w A0 c0 l0 a1 wl k W) (hb : Below W.heap.size W W2) (hR : Kd.R (Kd.int .i64) 3 W2 W.heap.size (fun _ => True) (.slice A (wl (k + 1)).length c) (wl (k + 1))) (hB : B ≤ W.heap.size) :
    IW w A0 c0 l0 a1 wl (k + 1) ((W2.setCell ⟨w.heap.size + 1 + 1 + 1 + 1, 0, none⟩ (.slice A (wl (k + 1)).length c)).setCell ⟨w.heap.size + 1 + 1 + 1 + 1 + 1, 0, none⟩ (.int .i64 ((k : Int) + 1))) ∧
      Kps B (fun b => b = w.heap.size + 1 + 1 + 1 + 1 ∨ b = w.heap.size + 1 + 1 + 1 + 1 + 1) W ((W2.setCell ⟨w.heap.size + 1 + 1 + 1 + 1, 0, none⟩ (.slice A (wl (k + 1)).length c)).setCell ⟨w.heap.size + 1 + 1 + 1 + 1 + 1, 0, none⟩ (.int .i64 ((k : Int) + 1))) := by
  obtain ⟨_, _, h1, _⟩ := h.bw
  have h2 := h.step hb
  obtain ⟨_, _, h3, _⟩ := h2.bw
  have hlt := h.bk.lt
  refine ⟨⟨(h2.bs.other (by omega) _).other (by omega) _, (h2.bn.other (by omega) _).other (by omega) _, (h2.br.other (by omega) _).other (by omega) _, ?_, (h2.below.setCell (by show w.heap.size ≤ w.heap.size + 1 + 1 + 1 + 1; omega) _).setCell (by show w.heap.size ≤ w.heap.size + 1 + 1 + 1 + 1 + 1; omega) _, A, c, ((h3.set _).other (by omega) _), ?_⟩, (Kps.below hb hB).trans ((Kps.set _ _ _ (.inr (.inl rfl))).trans (Kps.set _ _ _ (.inr (.inr rfl))))⟩
  · exact (h2.bk.other (by omega) _).set _
  · refine Kd.R_mono (Kd.R_far (Kd.R_far (Kd.R_lower (Kd.R_bound hR) (h.below.size)) (fun b hb => ?_) _) (fun b hb => ?_) _) (fun b hb => ?_)
    · have := hb.2.1; show b ≠ w.heap.size + 1 + 1 + 1 + 1; omega
    · have := hb.2.1; show b ≠ w.heap.size + 1 + 1 + 1 + 1 + 1; omega
    · have := hb.2.1; omega
theorem digs_zero : ∀ (l : List Int), (digs l 0).1 = List.replicate l.length 0 ∧ (digs l 0).2 = 0
  | [] => ⟨rfl, rfl⟩
  | y :: u => by
    obtain ⟨h1, h2⟩ := digs_zero u
    simp only [digs, h1, h2, List.length_cons, List.replicate_succ]
    exact ⟨by simp, by simp⟩
theorem digs_bd : ∀ (l : List Int) (p : Int), (∀ y ∈ l, 1 ≤ y ∧ y ≤ 1024) → ∀ x ∈ (digs l p).1, 0 ≤ x ∧ x ≤ 1024
  | [], p, _, x, hx => by simp [digs] at hx
  | y :: u, p, h, x, hx => by
    have hy := h y List.mem_cons_self
    simp only [digs, List.mem_cons] at hx
    rcases hx with rfl | hx
    · have h1 := Int.emod_nonneg (digs u p).2 (show y ≠ 0 by omega)
      have h2 := Int.emod_lt_of_pos (digs u p).2 (show 0 < y by omega)
      omega
    · exact digs_bd u p (fun z hz => h z (List.mem_cons_of_mem _ hz)) x hx
/-- The place behind a place is that of the next number. -/
theorem inc_digs : ∀ (l : List Int) (p : Int), (∀ y ∈ l, 1 ≤ y) → 0 ≤ p → (NextW.inc l (digs l p).1).1 = (digs l (p + 1)).1 ∧ ((NextW.inc l (digs l p).1).2 = true ↔ (digs l (p + 1)).2 = (digs l p).2 + 1) ∧ ((digs l (p + 1)).2 = (digs l p).2 + 1 ∨ (digs l (p + 1)).2 = (digs l p).2)
  | [], p, _, _ => by simp [digs, NextW.inc]
  | y :: u, p, h, hp => by
    obtain ⟨h1, h2, h3⟩ := inc_digs u p (fun z hz => h z (List.mem_cons_of_mem _ hz)) hp
    have hy := h y List.mem_cons_self
    have hu' := fun z hz => h z (List.mem_cons_of_mem _ hz)
    have hq := (digs_nonneg u p hu' hp).1
    have m0 := Int.emod_nonneg (digs u p).2 (show y ≠ 0 by omega)
    have m1 := Int.emod_lt_of_pos (digs u p).2 (show 0 < y by omega)
    have m2 := Int.mul_ediv_add_emod (digs u p).2 y
    simp only [digs]
    rw [NextW.inc_cons, h1]
    rcases h3 with h3 | h3
    · rw [if_pos (h2.2 h3), h3]
      generalize (digs u p).2 = q at hq m0 m1 m2 ⊢
      by_cases c : q % y + 1 < y
      · have e1 : (q + 1) % y = q % y + 1 := by
          rw [show q + 1 = (q % y + 1) + y * (q / y) by omega, Int.add_mul_emod_self_left, Int.emod_eq_of_lt (by omega) c]
        have e2 : (q + 1) / y = q / y := by
          rw [show q + 1 = (q % y + 1) + y * (q / y) by omega, Int.add_mul_ediv_left _ _ (by omega), Int.ediv_eq_zero_of_lt (by omega) c, Int.zero_add]
        rw [if_pos c, e1, e2]
        exact ⟨rfl, ⟨fun hh => by simp at hh, fun hh => by omega⟩, .inr rfl⟩
      · have e1 : (q + 1) % y = 0 := by
          rw [show q + 1 = y + y * (q / y) by omega, Int.add_mul_emod_self_left, Int.emod_self]
        have e2 : (q + 1) / y = q / y + 1 := by
          rw [show q + 1 = y + y * (q / y) by omega, Int.add_mul_ediv_left _ _ (by omega), Int.ediv_self (by omega)]; omega
        rw [if_neg c, e1, e2]
        exact ⟨rfl, by simp, .inl rfl⟩
    · rw [if_neg (fun hh => by have := h2.1 hh; omega), h3]
      exact ⟨rfl, ⟨fun hh => by simp at hh, fun hh => by omega⟩, .inr rfl⟩
set_option maxRecDepth 100000 in
set_option maxHeartbeats 8000000 in
theorem walk_calls (A0 : Option Addr) (c0 : Nat) (l0 : List Int) (a1 : Int) (r : Bool) (w : World) (hr0 : Kd.C (Kd.int .i64) w A0 l0.length l0) (hc0 : l0.length ≤ c0) (h : walkF l0 a1 = some r) :
    Calls Try.prog 24 #[.slice A0 l0.length c0, .int .i64 a1] w fun e w' => e = .returned (.bool r) ∧ Below w.heap.size w w' := by
  unfold walkF at h
  split at h
  case isFalse => cases h
  case isTrue hk =>
  obtain rfl := Option.some.inj h
  obtain ⟨h1, h2, h3, h4, h5⟩ := rightS_true hk.2.1
  obtain ⟨fuel, N, hN, hN1, hN2, hat, hend⟩ := at_all l0 hk.2.1
  obtain ⟨KS, hS⟩ := refSize_ev l0 h2 h3
  replace hS := hS KS (Nat.le_refl _)
  have hmx : Try.prog.follows .mixedOrders = true := by kernel_rfl
  have hmk := AtW.make_run l0.length h2
  obtain ⟨wl, hwl⟩ : ∃ wl : Nat → List Int, wl = fun k : Nat => (digs l0 (k : Int)).1 := ⟨_, rfl⟩
  have hwll : ∀ k, (wl k).length = l0.length := fun k => by rw [hwl]; exact digs_length _ _
  have HK := Aside0.mk (And.intro hk hr0)
  have HC0 := Aside0.mk hc0
  have HW := Aside0.mk hwl
  have HL := Aside0.mk (And.intro hwll (And.intro h2 h3))
  have HN := Aside0.mk (And.intro hN (And.intro hN1 (And.intro hN2 (And.intro hat (And.intro hend hS)))))
  have hl4 : (l0.length : Int) ≤ 4 := by omega
  clear h hk hr0 h1 h3 h4 h5 hc0 hwl hN hN1 hN2 hat hend hwll hS
  refine (callsIn_wide (n := 4)).1 ?_
  refine callsIn_of_wp_marks Try.func24 rfl trivial ?_ rfl
  simp only [Try.ntmps24, List.size_toArray, List.length_cons, List.length_nil, Nat.reduceAdd, Nat.reduceSub, Array.replicate_succ, Array.replicate_zero, List.push_toArray, List.append_toArray, List.nil_append, List.cons_append]
  gi_wp2_with (refine ⟨trivial, ?_⟩; gi_at_call 34; refine (callsIn_wide.2 (all_any A0 c0 l0 _ (Kd.C_alloc (Kd.C_alloc (Kd.C_alloc (Kd.C_alloc (Kd.C_alloc (Kd.C_alloc HK.out.2 _) _) _) _) _) _) HC0.out (by have := HK.out.1.1; omega))).mono ?_; rintro e w1 ⟨Bs, A1, c1, rfl, hB0, hB1, hc1, hR1, hb1⟩)
  have hsz : ((((((w.alloc (.cells #[.slice A0 l0.length c0] 23)).alloc (.cells #[.int .i64 a1] 3)).alloc (.cells #[.bool false] 4)).alloc (.cells (madeCells #[.int .i64 0] l0.length) 3)).alloc (.cells #[.slice (some ⟨w.heap.size + 1 + 1 + 1, 0, none⟩) l0.length l0.length] 22)).alloc (.cells #[.int .i64 0] 3)).heap.size = w.heap.size + 6 := by simp
  have hI0 : IW w A0 c0 l0 a1 wl 0 ((((((w.alloc (.cells #[.slice A0 l0.length c0] 23)).alloc (.cells #[.int .i64 a1] 3)).alloc (.cells #[.bool false] 4)).alloc (.cells (madeCells #[.int .i64 0] l0.length) 3)).alloc (.cells #[.slice (some ⟨w.heap.size + 1 + 1 + 1, 0, none⟩) l0.length l0.length] 22)).alloc (.cells #[.int .i64 0] 3)) := by
    have z : wl ((0 : Nat)) = List.replicate l0.length 0 := by rw [HW.out]; exact (digs_zero l0).1
    have q1 := Boxed.new w 23 (.slice A0 l0.length c0)
    have q2 := Boxed.new (w.alloc (.cells #[.slice A0 l0.length c0] 23)) 3 (.int .i64 a1)
    have q3 := Boxed.new ((w.alloc (.cells #[.slice A0 l0.length c0] 23)).alloc (.cells #[.int .i64 a1] 3)) 4 (.bool false)
    have q5 := Boxed.new ((((w.alloc (.cells #[.slice A0 l0.length c0] 23)).alloc (.cells #[.int .i64 a1] 3)).alloc (.cells #[.bool false] 4)).alloc (.cells (madeCells #[.int .i64 0] l0.length) 3)) 22 (.slice (some ⟨w.heap.size + 1 + 1 + 1, 0, none⟩) l0.length l0.length)
    have q6 := Boxed.new (((((w.alloc (.cells #[.slice A0 l0.length c0] 23)).alloc (.cells #[.int .i64 a1] 3)).alloc (.cells #[.bool false] 4)).alloc (.cells (madeCells #[.int .i64 0] l0.length) 3)).alloc (.cells #[.slice (some ⟨w.heap.size + 1 + 1 + 1, 0, none⟩) l0.length l0.length] 22)) 3 (.int .i64 0)
    have q4 := AtW.made_R l0.length h2 (((w.alloc (.cells #[.slice A0 l0.length c0] 23)).alloc (.cells #[.int .i64 a1] 3)).alloc (.cells #[.bool false] 4)) w.heap.size (by simp; omega)
    simp only [World.size_alloc] at q2 q3 q4 q5 q6
    refine ⟨((((q1.alloc _).alloc _).alloc _).alloc _).alloc _, (((q2.alloc _).alloc _).alloc _).alloc _, ((q3.alloc _).alloc _).alloc _, q6, below_alloc (below_alloc (below_alloc (below_alloc (below_alloc (below_alloc (Below.refl _ _) _) _) _) _) _) _, some ⟨w.heap.size + 1 + 1 + 1, 0, none⟩, l0.length, ?_, ?_⟩
    · rw [HL.out.1 0]; exact q5.alloc _
    · rw [z, List.length_replicate]
      exact Kd.R_mono (Kd.R_alloc (Kd.R_alloc q4 _) _) (fun b hb => by omega)
  have hI1 := hI0.step hb1
  have hcs := Kd.R_reads' hR1
  have hw1 : w.heap.size + 6 ≤ w1.heap.size := by have := hb1.size; omega
  have HI := Aside0.mk hI1
  rw [hsz] at hR1
  have hbase := Kd.R_base hR1
  clear hI0 hb1 hsz hI1
  refine range_out (n := 4) (α := Nat × Value) rfl (by omega) (gf := 40) (lb := #[.pointer (some ⟨Bs, 0, none⟩)]) rfl trivial (enters_of Try.func40 (by kernel_rfl) rfl)
    (all_seq 3 (by omega) fuel N wl 11 (by decide) HN.out.2.2.1 w1.heap.size Bs A1 c1 l0 (fun b => b = w.heap.size + 1 + 1 + 1 + 1 ∨ b = w.heap.size + 1 + 1 + 1 + 1 + 1) w1 hB1 hcs.2.2 hc1 hB1.lt (by simp at hB0; omega) (fun ad e hp => ⟨C_lt hcs.2.2 ad e hp, ?own⟩) (fun k hk => by rw [HW.out]; exact HN.out.2.2.2.1 k hk) HN.out.2.2.2.2.1)
    (fun _ => rfl) (fun k x X Y h => h.grown)
    (fun k W => IW w A0 c0 l0 a1 wl k W ∧ (k : Int) < a1) (fun c k W => c = .exit 0 ∧ IW w A0 c0 l0 a1 wl k W ∧ (k : Int) = a1)
    (fun k x a' W => (IW w A0 c0 l0 a1 wl k W ∧ (k : Int) < a1) ∧ k < N ∧ w1.heap.size ≤ W.heap.size ∧ ∃ Av cv, x.2 = .slice Av (wl k).length cv ∧ (wl k).length ≤ cv ∧ Kd.R (Kd.int .i64) 3 W w.heap.size (fun _ => True) (.slice Av (wl k).length cv) (wl k) ∧ a' = { tmps := #[.slice A0 l0.length c0, .int .i64 a1, .pointer (some ⟨w.heap.size, 0, none⟩), .pointer (some ⟨w.heap.size + 1, 0, none⟩), .pointer (some ⟨w.heap.size + 1 + 1, 0, none⟩), .pointer (some ⟨w.heap.size + 1 + 1 + 1 + 1, 0, none⟩), .pointer (some ⟨w.heap.size + 1 + 1 + 1 + 1 + 1, 0, none⟩), .int .i64 (k : Int), .slice Av (wl k).length cv, .slice A0 l0.length c0, .int .i64 (l0.length : Int), .slice (some ⟨w.heap.size + 1 + 1 + 1, 0, none⟩) l0.length l0.length, .slice A0 l0.length c0, .func (.func 40) #[] #[.pointer (some ⟨Bs, 0, none⟩)], .int .i64 (k : Int), .slice Av (wl k).length cv, undef, undef, undef, undef, undef, undef, undef, undef, undef, undef, undef, undef, undef, undef, undef, undef, undef, undef, undef, undef, undef, undef, undef], defers := [] })
    ?oI ?oX ?oA ⟨HI.out, by have := HK.out.1.2.2.1; show ((0 : Nat) : Int) < a1; omega⟩ ?assign ?body ?done ?stop
  case own =>
    rintro hm
    have h1 := hbase ad.block (by rw [e]; rfl)
    omega
  case oI => exact OwnFrom.and (IW.own w A0 c0 l0 a1 wl _ (by omega)) (ownFrom_pure _ (fun k : Nat => (k : Int) < a1))
  case oX =>
    rintro c k W W' row ⟨h1, h2, h3⟩ hg hr
    exact ⟨h1, IW.own w A0 c0 l0 a1 wl _ (by omega) k W W' row h2 hg hr, h3⟩
  case oA =>
    rintro k x a' _ W W' row ⟨⟨h1, h2⟩, h3, h4, Av, cv, h5, h6, h7, h8⟩ hg hr
    refine ⟨⟨IW.own w A0 c0 l0 a1 wl _ (by omega) k W W' row h1 hg hr, h2⟩, h3, Nat.le_trans h4 hg.size, Av, cv, h5, h6, ?_, h8⟩
    refine Kd.R_mono (Kd.R_move (Kd.R_bound h7) (fun k hk' => ?_)) (fun _ _ => trivial)
    obtain ⟨_, _, _, q, _, cells, hc⟩ := hk'
    exact AtW.cells_kept hg (fun r e => (hr r e).2) hc
  case assign =>
    rintro l k ⟨i, v⟩ X Y K ⟨hI, hlt⟩ ⟨hi, hkN, hb, hR⟩ hX hK
    obtain rfl : i = k := hi
    change Kd.R _ _ Y _ _ v _ at hR
    obtain ⟨Av, cv, rfl⟩ := Kd.R_slice hR
    have hK' := Aside0.mk (hK _ _ (Kps.refl _ _ _) ⟨⟨hI.step hb, hlt⟩, hkN, Nat.le_trans hX hb.size, Av, cv, rfl, (Kd.R_reads' hR).2.1, Kd.R_lower hR hI.below.size, rfl⟩)
    clear hK hI hR
    simp only [AllW.encs]
    gi_wp2
    exact hK'.out
  case body =>
    rintro l k x a' W hl _ ⟨⟨hI, hlt⟩, hkN, hX, Av, cv, hx2, hcv, hRv, rfl⟩
    obtain ⟨Aw, cw, bw, Rw⟩ := hI.bw
    obtain ⟨Km, hsame⟩ := same_ev (wl k) (wl k) (by rw [HL.out.1]; omega)
    replace hsame : athanorref03_Same.f Km (wl k) (wl k) = some true := by have h := hsame Km (Nat.le_refl _); simpa using h
    have c1 := hI.bs.cell
    have c2 := hI.bn.cell
    have c3 := hI.bk.cell
    have c4 := bw.cell
    have HW4 := Aside0.mk bw
    have HS := Aside0.mk (And.intro hI (And.intro hlt (And.intro hkN (And.intro hX (And.intro hcv (And.intro hRv (And.intro Rw hsame)))))))
    clear hI hlt hkN hX hcv hRv Rw bw hsame
    have hnx : (NextW.inc l0 (wl k)).1 = wl (k + 1) := by
      rw [HW.out]
      have h := (inc_digs l0 (k : Int) (fun y hy => (HL.out.2.2 y hy).1) (by omega)).1
      simpa using h
    have hbd : ∀ z ∈ wl k, 0 ≤ z ∧ z ≤ 1024 := by rw [HW.out]; exact digs_bd l0 _ HL.out.2.2
    have HNX := Aside0.mk (And.intro hnx hbd)
    have kb : (k : Int) ≤ 70000 := by have := HS.out.2.2.1; have := HN.out.2.2.1; omega
    clear hnx hbd
    by_cases hq : (k : Int) + 1 = a1
    all_goals
      first
        | (have hqb : ((k : Int) + 1 == a1) = true := beq_iff_eq.2 hq)
        | (have hqb : ((k : Int) + 1 == a1) = false := beq_eq_false_iff_ne.2 hq)
      have HQ := Aside0.mk hq
      clear hq
      gi_wp2_with (first
        | (refine ⟨trivial, ?_⟩; gi_at_call 20; refine (CallsIn.inRound l (callsIn_wide.2 (athanorref03_Same.calls Km Av cv (wl k) Aw cw (wl k) true W (Kd.R_reads' HS.out.2.2.2.2.2.1).2.2 HS.out.2.2.2.2.1 (Kd.R_reads' HS.out.2.2.2.2.2.2.1).2.2 (Kd.R_reads' HS.out.2.2.2.2.2.2.1).2.1 HS.out.2.2.2.2.2.2.2))).mono ?_; rintro e W2 ⟨rfl, hd⟩; have HI2 := Aside0.mk (HS.out.1.step (belD hd)); have HB2 := Aside0.mk (belD hd); have d1 := HI2.out.bs.cell; have d2 := HI2.out.bn.cell; have d3 := HI2.out.bk.cell; have d4 := (bx HW4.out (belD hd)).cell; clear hd c1 c2 c3 c4)
        | (refine ⟨trivial, ?_⟩; gi_at_call 35; refine (CallsIn.inRound l (callsIn_wide.2 (NextW.next_any A0 Aw c0 cw l0 (wl k) W2 (Kd.C_below HK.out.2 HI2.out.below) HC0.out (Kd.C_below (Kd.R_reads' HS.out.2.2.2.2.2.2.1).2.2 HB2.out) (Kd.R_reads' HS.out.2.2.2.2.2.2.1).2.1 (HL.out.1 k).symm (by rw [HL.out.1]; exact HL.out.2.1) HNX.out.2))).mono ?_; rintro e W3 ⟨v3, rfl, hR3, hb3⟩; rw [HNX.out.1] at hR3; obtain ⟨A3, c3, rfl⟩ := Kd.R_slice hR3; have HE := Aside0.mk (IW.next HI2.out hb3 hR3 (Nat.le_trans HS.out.2.2.2.1 HB2.out.size)); have HI3 := Aside0.mk (HI2.out.step hb3); have e1 := HI3.out.bs.cell; have e2 := HI3.out.bn.cell; have e3 := HI3.out.bk.cell; have e4 := (bx (bx HW4.out HB2.out) hb3).cell; have f3 := HI3.out.bk.frozen; have f4 := (bx (bx HW4.out HB2.out) hb3).frozen; clear hR3 hb3 d1 d2 d3 d4))
    · exact ⟨(Kps.below HB2.out HS.out.2.2.2.1).trans HE.out.2, rfl, HE.out.1, by have := HQ.out; omega⟩
    · exact ⟨(Kps.below HB2.out HS.out.2.2.2.1).trans HE.out.2, HE.out.1, by have := HQ.out; have := HS.out.2.1; omega⟩
  case' done =>
    rintro D k W hD hk ⟨hI, hlt⟩ hW
    have hfin : (if prod l0 < a1 then prod l0 else a1) = (k : Int) := by rw [← HN.out.1, hk]; rw [hk] at hlt; exact if_pos hlt
  case' stop =>
    rintro D c k W hD hSp ⟨rfl, hI, hlt⟩ hW
    have hfin : (if prod l0 < a1 then prod l0 else a1) = (k : Int) := by rw [← HN.out.1, ← hlt]; exact if_neg (by have := hSp.2; omega)
  all_goals
    have c1 := hI.bs.cell
    have c2 := hI.bn.cell
    have c3 := hI.bk.cell
    have HT := Aside0.mk (And.intro hI (And.intro (show w.heap.size + 6 ≤ D by omega) (And.intro hW hw1)))
    have HF := Aside0.mk hfin
    clear hI hW hD hw1 hfin hlt hmk hB0 hB1 hc1 hR1 hcs hbase HI
    gi_wp2
    refine start_wideN (n := 7) (S := fun V => Below W.heap.size W V ∧ V.cell? ⟨w.heap.size, 0, none⟩ = some (.slice A0 l0.length c0) ∧ V.cell? ⟨w.heap.size + 1, 0, none⟩ = some (.int .i64 a1) ∧ V.cell? ⟨w.heap.size + 1 + 1 + 1 + 1 + 1, 0, none⟩ = some (.int .i64 (k : Int))) (ds := [6])
      (lst 7 [(0, some 33), (1, some 34), (2, some 35), (3, some 36), (4, some 37), (5, some 38), (6, none)]) hmx rfl (by kernel_rfl) (by kernel_rfl) ⟨below_drew1 (Below.refl _ _), c1, c2, c3⟩ (fun hS => ?_)
    clear c1 c2 c3
    iterate 3 (first
     | (refine pureO rfl rfl (by kernel_rfl) (by exact fun _ _ _ h => h) (Or.inr ⟨by rfl, rfl⟩) (by simp only [Act.put, List.setIfInBounds_toArray, List.set_cons_zero, List.set_cons_succ]; rfl) ?_)
     | (refine pureO rfl rfl (by kernel_rfl) (by exact fun _ _ _ h => h) (Or.inl ⟨by rfl, by intro w_; go_simp; with_reducible rfl⟩) (by simp only [Act.put, List.setIfInBounds_toArray, List.set_cons_zero, List.set_cons_succ]; rfl) ?_)
     | (refine takeO rfl rfl (by kernel_rfl) (by exact fun _ _ _ h => h) hS (Or.inl ⟨by rfl, by rintro w_ ⟨_, s0_, s1_, s2_⟩; go_simp; with_reducible rfl⟩) (by simp only [Act.put, List.setIfInBounds_toArray, List.set_cons_zero, List.set_cons_succ]; rfl) ?_))
    refine oneO rfl rfl (by kernel_rfl) (by decide) (fun K hK => ?_)
    refine goes_ Try.func15 (by kernel_rfl) rfl #[.slice A0 l0.length c0] (by rfl) rfl rfl (by simp only [List.map_toArray, List.map_cons, List.map_nil]; rfl) ?_
    refine (athanorref03_Size.calls KS _ _ _ _ _ (Kd.C_below (Kd.C_below HK.out.2 HT.out.1.below) hS.1) HC0.out HN.out.2.2.2.2.2).mono ?_
    rintro e w4 ⟨rfl, hd⟩
    refine ⟨_, rfl, hK.out _ _ ⟨below_step hS.1 (belD hd), cellB (belD hd) hS.2.1, cellB (belD hd) hS.2.2.1, cellB (belD hd) hS.2.2.2⟩ (fun hS1 => ?_)⟩
    clear hK K hS hd
    have hff := HF.out
    have hfe : ((k : Int) == (k : Int)) = true := beq_self_eq_true _
    iterate 2 (first
     | (refine pureO rfl rfl (by kernel_rfl) (by exact fun _ _ _ h => h) (Or.inr ⟨by rfl, rfl⟩) (by simp only [Act.put, List.setIfInBounds_toArray, List.set_cons_zero, List.set_cons_succ]; rfl) ?_)
     | (refine pureO rfl rfl (by kernel_rfl) (by exact fun _ _ _ h => h) (Or.inl ⟨by rfl, by intro w_; go_simp; with_reducible rfl⟩) (by simp only [Act.put, List.setIfInBounds_toArray, List.set_cons_zero, List.set_cons_succ]; rfl) ?_)
     | (refine takeO rfl rfl (by kernel_rfl) (by exact fun _ _ _ h => h) hS1 (Or.inl ⟨by rfl, by rintro w_ ⟨_, s0_, s1_, s2_⟩; go_simp; with_reducible rfl⟩) (by simp only [Act.put, List.setIfInBounds_toArray, List.set_cons_zero, List.set_cons_succ]; rfl) ?_))
    have hr4 := bx HT.out.1.br hS1.1
    have hrc := hr4.cell
    have hrf := hr4.frozen
    refine lastO rfl rfl (by kernel_rfl) (by decide) (fun K hK => ?_)
    refine skip_ (w1 := ?_) (by rfl) rfl ?_ ?_
    rotate_left
    · go_simp
      rfl
    refine hK.out _ _ ?_
    clear hK K
    refine done_N (by kernel_rfl) ?_
    have HE := Aside0.mk (And.intro hr4 hS1.1)
    clear hr4 hrc hrf hS1 hff hfe
    gi_wp2
    obtain ⟨hI, hD, hW, hw1⟩ := HT.out
    have hbw := below_step hI.below HE.out.2
    have hW4 := (HE.out.2.block D (Array.getElem?_eq_some_iff.1 hW).1).trans hW
    refine ⟨by simp, .inl ⟨_, _, rfl, run_takeDeferred ((Below.heap_setCell _ _ _ D (by show D ≠ w.heap.size + 1 + 1; omega)).trans hW4), ?_⟩⟩
    refine ⟨.bool true, results_bool rfl Try.underlying4 _ _ (w.heap.size + 1 + 1) _ rfl (cell_end HE.out.1 (by omega) _), rfl, ?_⟩
    have h3 := hbw.setCell (p := ⟨w.heap.size + 1 + 1, 0, none⟩) (by show w.heap.size ≤ w.heap.size + 1 + 1; omega) (Value.bool true)
    exact h3.grown (grownBy_putObj' _ D _) h3.size (fun k e => by cases e; omega)
-- END walk
end Go.Proofs.Ytdefilnjkacepaa.AllL
