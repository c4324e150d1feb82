import Derived.Test.YtkbonmhegojfdaaPOrdx1
import Derived.Test.YtkbonmhegojfdaaPOrdx2
import Derived.Test.YtkbonmhegojfdaaBat
import Derived.Test.YtkbonmhegojfdaaTake
set_option linter.unusedVariables false
set_option linter.unusedSimpArgs false
namespace Go.Proofs.Ytkbonmhegojfdaa.Awk
open Go.RowKit Go.Shelf Go.Proofs Go.Proofs.Ytkbonmhegojfdaa.POrd Go.Proofs.Ytkbonmhegojfdaa.Bat Go.Proofs.Ytkbonmhegojfdaa.Chan Go.Proofs.YtkbonmhegojfdaaW.PrintWords Go.Proofs.YtkbonmhegojfdaaW.PrintLast Go.Proofs.YtkbonmhegojfdaaW.PrintMore Go.Proofs.Ytkbonmhegojfdaa.XW
attribute [local go_sem] max2_int min2_int max_two min_two max_three min_three max_four min_four max_five min_five
theorem mixed : order_Mix.f 10 3 [] = some ([1, 2, 0], 0) := by kernel_rfl
theorem mixless : order_Mix.f 10 (-1) [] = some ([], 11) := by kernel_rfl
theorem inverted : order_Invert.f 10 [1, 2, 0] = some ([2, 0, 1], 0) := by kernel_rfl
theorem same1 : athanorref03_Same.f 10 [1, 2, 0] [1, 2, 0] = some true := by kernel_rfl
theorem same2 : athanorref03_Same.f 10 [2, 0, 1] [2, 0, 1] = some true := by kernel_rfl
theorem need5 : order_Need.f 5 = some 4 := by kernel_rfl
theorem parted : parts [1, 2, 3] 2 = [[1, 2], [3]] := by kernel_rfl
theorem mix3 (w : World) : Calls Try.prog 9 #[.int .i64 3, .slice none 0 0] w fun e w' => ∃ v0_ : Value, e = .returned (.tuple #[v0_, .int .i64 0]) ∧ Kd.R (Kd.int .i64) 3 w' w.heap.size (fun _ => True) v0_ [1, 2, 0] ∧ Below w.heap.size w w' :=
  order_Mix.calls 10 3 none 0 [] _ _ w (Kd.C_nil _ _) (Nat.le_refl _) mixed
theorem mixm (w : World) : Calls Try.prog 9 #[.int .i64 (-1), .slice none 0 0] w fun e w' => ∃ v0_ : Value, e = .returned (.tuple #[v0_, .int .i64 11]) ∧ Kd.R (Kd.int .i64) 3 w' w.heap.size (fun _ => True) v0_ [] ∧ Below w.heap.size w w' :=
  order_Mix.calls 10 (-1) none 0 [] _ _ w (Kd.C_nil _ _) (Nat.le_refl _) mixless
theorem lit_cell (w : World) (cs : Array Value) (t : Nat) (j : Nat) (v : Value) (h : cs[j]? = some v) : (w.alloc (.cells cs t)).cell? ((⟨w.heap.size, 0, none⟩ : Addr).add j) = some v := by
  have e : ((⟨w.heap.size, 0, none⟩ : Addr).add j) = ⟨w.heap.size, j, none⟩ := by unfold Addr.add; split <;> simp_all
  rw [e]
  unfold World.cell?
  rw [World.alloc_heap_new]
  exact h
theorem lit_C (K : IntKind) (w : World) (l : List Int) (cs : Array Value) (t : Nat) (hl : l.length ≤ 9223372036854775807) (h : ∀ (j : Nat) (p : Int), l[j]? = some p → cs[j]? = some (Value.int K p)) : (Kd.int K).C (w.alloc (.cells cs t)) (some ⟨w.heap.size, 0, none⟩) l.length l := by
  refine ⟨rfl, hl, fun _ => ⟨_, rfl, fun j p hp => ⟨[Value.int K p], rfl, rfl, fun i u hu => ?_⟩⟩⟩
  cases i with
  | succ i => simp at hu
  | zero =>
    simp at hu; subst hu
    have := lit_cell w cs t j _ (h j p hp)
    simpa [Kd.int, Kd.scalar] using this
theorem belA (w : World) (o : Obj) : Below w.heap.size w (w.alloc o) := below_alloc (Below.refl _ _) _
theorem belT {b : Nat} {w w1 w2 : World} (h : Below b w w1) (k : Below w1.heap.size w1 w2) (hb : b ≤ w1.heap.size) : Below b w w2 := h.trans ⟨k.os, k.tape, k.output, k.size, fun i hi => k.block i (by omega)⟩
theorem inv3 {w : World} {b : Nat} {v : Value} (h : (Kd.R (Kd.int .i64) 3) w b (fun _ => True) v [1, 2, 0]) : Calls Try.prog 14 #[v] w fun e w' => ∃ v0_ : Value, e = .returned (.tuple #[v0_, .int .i64 0]) ∧ (Kd.R (Kd.int .i64) 3) w' w.heap.size (fun _ => True) v0_ [2, 0, 1] ∧ Below w.heap.size w w' := by
  obtain ⟨A, c, rfl⟩ := Kd.R_slice h
  exact order_Invert.calls 10 A c _ _ _ w (Kd.R_reads' h).2.2 (Kd.R_reads' h).2.1 inverted
theorem bat3 (w : World) : Calls Try.prog 15 #[.slice (some ⟨w.heap.size, 0, none⟩) 3 3, .int .i64 2] (w.alloc (.cells #[.int .i64 1, .int .i64 2, .int .i64 3] 3)) fun e w' => ∃ v : Value, e = .returned (.tuple #[v, .int .i64 0]) ∧ ((Kd.slice 3 (Kd.int .i64)).R 24) w' w.heap.size (fun _ => True) v [[1, 2], [3]] ∧ Below w.heap.size w w' := by
  refine (batches_some _ 3 [1, 2, 3] 2 (by decide) (by decide) (by decide) (by decide) _ (lit_C .i64 w [1, 2, 3] _ 3 (by decide) ?_)).mono ?_
  · intro j p hp
    rcases j with _ | _ | _ | j <;> simp at hp ⊢ <;> exact hp.symm ▸ rfl
  · rintro e w' ⟨v, rfl, hr, hb⟩
    exact ⟨v, rfl, Kd.R_lower (parted ▸ hr) (below_size (belA w _)), belT (belA w _) hb (below_size (belA w _))⟩
theorem feed2 (w : World) : Calls Try.prog 16 #[.slice (some ⟨w.heap.size, 0, none⟩) 2 2] (w.alloc (.cells #[.int .u64 7, .int .u64 8] 41)) fun e w' => ∃ cb, e = .returned (.chan (some cb)) ∧ w.heap.size ≤ cb ∧ w'.heap[cb]? = some (.chan 2 (([7, 8] : List Int).map (Value.int .u64)).toArray true 2 0 false) ∧ Below w.heap.size w w' := by
  refine (feed_any _ _ 2 [7, 8] (by decide) (fun _ => ⟨_, rfl, fun j hj => lit_cell w _ 41 j _ ?_⟩)).mono ?_
  · rcases j with _ | _ | j
    · rfl
    · rfl
    · simp at hj; omega
  · rintro e w' ⟨rfl, hc, hb⟩
    exact ⟨_, rfl, below_size (belA w _), hc, belT (belA w _) hb (below_size (belA w _))⟩
theorem same3 {w : World} {b : Nat} {v : Value} (l : List Int) (hl : l.length = 3) (cs : Array Value) (h0 : (Kd.R (Kd.int .i64) 3) w b (fun _ => True) v l) (h : ∀ (j : Nat) (p : Int), l[j]? = some p → cs[j]? = some (Value.int .i64 p)) (hs : athanorref03_Same.f 10 l l = some true) :
    Calls Try.prog 10 #[v, .slice (some ⟨w.heap.size, 0, none⟩) 3 3] (w.alloc (.cells cs 3)) fun e w' => e = .returned (.bool true) ∧ Below w.heap.size w w' := by
  obtain ⟨A, c, rfl⟩ := Kd.R_slice h0
  have hx := athanorref03_Same.calls 10 A c l (some ⟨w.heap.size, 0, none⟩) 3 l true (w.alloc (.cells cs 3)) (Kd.C_below (Kd.R_reads' h0).2.2 (belA w _)) (Kd.R_reads' h0).2.1 (lit_C .i64 w l cs 3 (by omega) h) (by omega) hs
  rw [hl] at hx
  rw [hl]
  refine hx.mono ?_
  rintro e w' ⟨rfl, ⟨nd, rfl⟩⟩
  exact ⟨rfl, pw_below_drewN (belA w _) _⟩
theorem same1_ {w : World} {b : Nat} {v : Value} (h0 : (Kd.R (Kd.int .i64) 3) w b (fun _ => True) v [1, 2, 0]) : Calls Try.prog 10 #[v, .slice (some ⟨w.heap.size, 0, none⟩) 3 3] (w.alloc (.cells #[.int .i64 1, .int .i64 2, .int .i64 0] 3)) fun e w' => e = .returned (.bool true) ∧ Below w.heap.size w w' :=
  same3 _ rfl _ h0 (by intro j p hp; rcases j with _ | _ | _ | j <;> simp at hp ⊢ <;> exact hp) same1
theorem same2_ {w : World} {b : Nat} {v : Value} (h0 : (Kd.R (Kd.int .i64) 3) w b (fun _ => True) v [2, 0, 1]) : Calls Try.prog 10 #[v, .slice (some ⟨w.heap.size, 0, none⟩) 3 3] (w.alloc (.cells #[.int .i64 2, .int .i64 0, .int .i64 1] 3)) fun e w' => e = .returned (.bool true) ∧ Below w.heap.size w w' :=
  same3 _ rfl _ h0 (by intro j p hp; rcases j with _ | _ | _ | j <;> simp at hp ⊢ <;> exact hp) same2
theorem need_ (w : World) : Calls Try.prog 13 #[.int .i64 5] w fun e w' => e = .returned (.int .i64 4) ∧ Below w.heap.size w w' := order_Need.calls 5 4 w need5
theorem offR {w w' : World} {cb : Nat} {o : Obj} (ho : OffC cb w w') (hc : w.heap[cb]? = some o) (hn : o.isCells = false) {α : Type} {d : Kd α} {e b : Nat} {v : Value} {xs : List α} (h : d.R e w b (fun _ => True) v xs) : d.R e w' b (fun _ => True) v xs := by
  refine Kd.R_mono (Kd.R_move (Kd.R_bound h) (fun k hk => ?_)) (fun _ _ => trivial)
  obtain ⟨_, _, hlt, q, _, cells, hcc⟩ := hk
  refine ho.2.2 k hlt (fun e => ?_)
  subst e
  rw [hc] at hcc; cases hcc; cases hn
theorem take2 {w : World} {cb b : Nat} (hcb : b ≤ cb) (hc : w.heap[cb]? = some (.chan 2 (([7, 8] : List Int).map (Value.int .u64)).toArray true 2 0 false)) :
    Calls Try.prog 17 #[.chan (some cb), .int .i64 5] w fun e w' => ∃ v, e = .returned v ∧ (Kd.R (Kd.int .u64) 41) w' w.heap.size (fun _ => True) v [7, 8] ∧ OffC cb w w' := by
  refine (take_some w cb 2 2 0 false [7, 8] 5 (by decide) hc).mono ?_
  rintro e w' ⟨v, m, r1, rfl, rfl, hr, _, ho⟩
  exact ⟨v, rfl, hr, ho⟩
theorem run_equalIn_chan_nil {P : Program} (w : World) (d : Nat) (t : TypeId) (k) (e : TypeId) (r : Option Nat) (h : P.underlying t = some (.chan k e)) :
    (Op.equalIn (d + 1) t (.chan r) (.chan none)).run P w = .ok r.isNone w := by
  cases r <;> simp [Op.equalIn, run_underlying h]
theorem chan_nil (cb : Nat) (w : World) : (binOp BinOp.eql 38 (.chan (some cb)) (.chan none)).run Try.prog w = .ok (.bool false) w := by
  have hd : ∃ d, Try.prog.underlying 38 = some (.chan d 41) := ⟨.recv, by kernel_rfl⟩
  obtain ⟨d, hd⟩ := hd
  simp only [binOp]
  simp [Op.equal, Op.maxDepth, run_equalIn_chan_nil w 9999 38 d 41 _ hd]
theorem addcell {w : World} {ad : Addr} {v : Value} (h : w.cell? (ad.add 1) = some v) : w.cell? ⟨ad.block, ad.off + 1, none⟩ = some v := by
  exact h
/-- The second part's length. -/
theorem rows2 {w : World} {b : Nat} {v : Value} (h : ((Kd.slice 3 (Kd.int .i64)).R 24) w b (fun _ => True) v [[1, 2], [3]]) : ∃ ad c A1 c1, v = .slice (some ad) 2 c ∧ 2 ≤ c ∧ w.cell? ⟨ad.block, ad.off + 1, none⟩ = some (.slice A1 1 c1) := by
  obtain ⟨A, c, rfl⟩ := Kd.R_slice h
  have h1 := Kd.R_reads' h
  obtain ⟨ad, rfl, hc⟩ := h1.2.2.2.2 (by decide)
  obtain ⟨cc, h3, h2, h4⟩ := hc 1 [3] rfl
  obtain ⟨A1, c1, rfl, _, _⟩ := h2
  exact ⟨ad, c, A1, c1, rfl, h1.2.1, addcell (h4 0 _ rfl)⟩
theorem ints2 {w : World} {b : Nat} {v : Value} (h : (Kd.R (Kd.int .u64) 41) w b (fun _ => True) v [7, 8]) : ∃ ad c, v = .slice (some ad) 2 c ∧ 2 ≤ c ∧ w.cell? ⟨ad.block, ad.off + 1, none⟩ = some (.int .u64 8) := by
  obtain ⟨A, c, rfl⟩ := Kd.R_slice h
  have h1 := Kd.R_reads' h
  obtain ⟨ad, rfl, hc⟩ := h1.2.2.2.2 (by decide)
  obtain ⟨cc, h3, h2, h4⟩ := hc 1 8 rfl
  have h5 : cc = [.int .u64 8] := h2
  subst h5
  exact ⟨ad, c, rfl, h1.2.1, addcell (h4 0 _ rfl)⟩
attribute [local go_sem] chan_nil
theorem offB {w w5 w6 : World} {cb b4 : Nat} (h : Below w.heap.size w w5) (ho : OffC cb w5 w6) (hs : w.heap.size ≤ b4) (hcb : b4 ≤ cb) : Below w.heap.size w w6 :=
  h.trans ⟨ho.1.os, ho.1.tape, ho.1.output, ho.2.1, fun i hi => ho.2.2 i (by have := below_size h; omega) (by omega)⟩
theorem cellB {w w' : World} (hb : Below w.heap.size w w') {p : Addr} {v : Value} (h : w.cell? p = some v) : w'.cell? p = some v := by
  have hl : p.block < w.heap.size := by
    rcases Nat.lt_or_ge p.block w.heap.size with h1 | h1
    · exact h1
    · unfold World.cell? at h
      rw [Array.getElem?_eq_none h1] at h
      cases h
  unfold World.cell? at h ⊢
  rw [hb.block _ hl]
  exact h
set_option maxRecDepth 100000 in
set_option maxHeartbeats 4000000 in
theorem walk (w : World) : Calls Try.prog 8 #[] w fun e w' => e = .returned (.bool true) ∧ Below w.heap.size w w' := by
  have HB := Aside0.mk (Below.refl w.heap.size w)
  go_enter Try.func8, Try.ntmps8
  go_wp2_with ((go_at_call 9; (with_reducible refine (mix3 _).mono ?_); rintro e w1 ⟨v1, rfl, ho, hb⟩; have HO1 := Aside0.mk (Kd.R_lower ho (below_size (by (repeat (first | (with_reducible first | exact HB.out | apply below_alloc | apply pw_below_drewN | apply below_drew1) | exact HB.out))))); have HB1 := Aside0.mk (below_step (by (repeat (first | (with_reducible first | exact HB.out | apply below_alloc | apply pw_below_drewN | apply below_drew1) | exact HB.out))) hb); clear HB ho hb))
  go_wp2_with ((go_at_call 15; (with_reducible refine (bat3 w1).mono ?_); rintro e w2 ⟨v2, rfl, ho, hb⟩; have HO2 := Aside0.mk (Kd.R_lower ho (below_size HB1.out)); have HO3 := Aside0.mk (Kd.R_below HO1.out hb); have HB := Aside0.mk (below_step HB1.out hb); clear HB1 HO1 ho hb))
  go_wp2_with ((go_at_call 14; (with_reducible refine (inv3 HO3.out).mono ?_); rintro e w3 ⟨v3, rfl, ho, hb⟩; have HO4 := Aside0.mk (Kd.R_lower ho (below_size HB.out)); have HO5 := Aside0.mk (Kd.R_below HO2.out hb); have HO6 := Aside0.mk (Kd.R_below HO3.out hb); have HB1 := Aside0.mk (below_step HB.out hb); clear HB HO2 HO3 ho hb))
  go_wp2_with ((go_at_call 9; (with_reducible refine (mixm _).mono ?_); rintro e w4 ⟨v4, rfl, ho, hb⟩; have HO1 := Aside0.mk (Kd.R_below HO4.out hb); have HO2 := Aside0.mk (Kd.R_below HO5.out hb); have HO3 := Aside0.mk (Kd.R_below HO6.out hb); have HB := Aside0.mk (below_step HB1.out hb); clear HB1 HO4 HO5 HO6 ho hb))
  go_wp2_with ((go_at_call 16; (with_reducible refine (feed2 w4).mono ?_); rintro e w5 ⟨cb, rfl, hcb, hc, hb⟩; have HO4 := Aside0.mk (Kd.R_below HO1.out hb); have HO5 := Aside0.mk (Kd.R_below HO2.out hb); have HO6 := Aside0.mk (Kd.R_below HO3.out hb); have HC := Aside0.mk hc; have HCB := Aside0.mk hcb; have HB1 := Aside0.mk (below_step HB.out hb); have HS := Aside0.mk (below_size HB.out); clear HB HO1 HO2 HO3 hc hcb hb))
  go_wp2_with ((go_at_call 17; (with_reducible refine (take2 HCB.out HC.out).mono ?_); rintro e w6 ⟨v5, rfl, ho, hoff⟩; have HO1 := Aside0.mk (offR hoff HC.out rfl HO4.out); have HO2 := Aside0.mk (offR hoff HC.out rfl HO5.out); have HO3 := Aside0.mk (offR hoff HC.out rfl HO6.out); have HB := Aside0.mk (offB HB1.out hoff HS.out HCB.out); have HO7 := Aside0.mk (Kd.R_lower ho (below_size HB1.out)); clear HO4 HO5 HO6 HB1 HC HCB HS ho hoff; obtain ⟨ad2, c2, A21, c21, e2, hc2, hcell2⟩ := rows2 HO2.out; obtain ⟨ad5, c5, e5, hc5, hcell5⟩ := ints2 HO7.out; subst e2 e5))
  go_wp2_with ((go_at_call 10; (with_reducible refine (same1_ HO3.out).mono ?_); rintro e w7 ⟨rfl, hb⟩; have HO4 := Aside0.mk (Kd.R_below HO1.out hb); have hcell3 := cellB hb hcell2; have hcell6 := cellB hb hcell5; have HB1 := Aside0.mk (below_step HB.out hb); clear HB HO1 HO2 HO3 HO7 hcell2 hcell5 hb))
  go_wp2_with ((go_at_call 10; (with_reducible refine (same2_ HO4.out).mono ?_); rintro e w8 ⟨rfl, hb⟩; have hcell7 := cellB hb hcell6; have HB := Aside0.mk (below_step HB1.out hb); clear HB1 HO4 hcell3 hcell6 hb))
  go_wp2_with ((go_at_call 13; (with_reducible refine (need_ _).mono ?_); rintro e w9 ⟨rfl, hb⟩; have HB1 := Aside0.mk (below_step HB.out hb); clear HB hcell7 hb))
  go_ret
  exact ⟨rfl, HB1.out⟩
end Go.Proofs.Ytkbonmhegojfdaa.Awk
