/- What order.Batches answers, once more: no two parts of the answer lie in one block. Conditions: at most a million places. -/
import Derived.Test.YtkbonmhegojfdaaBat
set_option linter.unusedVariables false
set_option linter.unusedSimpArgs false
namespace Go.Proofs.Ytkbonmhegojfdaa.Bat2
open Go.RowKit Go.Shelf Go.Proofs Go.Proofs.Ytkbonmhegojfdaa.POrd Go.Proofs.Ytkbonmhegojfdaa.AidRound Go.Proofs.Ytkbonmhegojfdaa.Bat Go.Proofs.YtkbonmhegojfdaaW.PrintWords Go.Proofs.YtkbonmhegojfdaaW.PrintLast Go.Proofs.YtkbonmhegojfdaaW.PrintMore
attribute [local go_sem] Oper.semAt_some
attribute [local go_sem] min2_int
def Inv (w : World) (l : List Int) (sz : Nat) (pre : List Nat) (W : World) : Prop :=
  (∃ v, Boxed W w.heap.size 34 v ∧ (Kd.S (Kd.slice 3 (Kd.int .i64)) 24) W w.heap.size (fun k => w.heap.size + 3 ≤ k) v (pre.map (Bat.part l sz))) ∧ Below w.heap.size w W ∧ w.heap.size + 3 ≤ W.heap.size
theorem inv_own (w : World) (l : List Int) (sz B : Nat) (hB : w.heap.size ≤ B) : OwnFrom B (Inv w l sz) := by
  rintro pre W W' row ⟨⟨v, hv, hR⟩, hb, h3⟩ hg hr
  refine ⟨⟨v, (cells_kept hg (fun r e => (hr r e).2) hv).trans hv, ?_⟩, hb.grown hg hb.size (fun k e => Nat.le_trans hB (hr k e).1), Nat.le_trans h3 hg.size⟩
  refine Kd.S_mono (Kd.S_move (Kd.S_bound hR) (fun k hk => ?_)) (fun _ hk => hk.1)
  obtain ⟨_, _, _, q, _, cells, hc⟩ := hk
  exact cells_kept hg (fun r e => (hr r e).2) hc
theorem info24_ : (Try.prog.info? 24).map (fun i => (i.zero, i.size, i.bytes)) = some (some (.slice none 0 0), 1, 24) := by kernel_rfl
/-- How a round ends. -/
theorem round_end {w W W1 W2 : World} {l : List Int} {sz : Nat} {pre : List Nat} {x : Nat} {v v1 : Value} (hsz : w.heap.size + 3 ≤ W.heap.size) (hI : Inv w l sz pre W) (hv : Boxed W w.heap.size 34 v) (hR : (Kd.S (Kd.slice 3 (Kd.int .i64)) 24) W w.heap.size (fun k => w.heap.size + 3 ≤ k) v (pre.map (Bat.part l sz)))
    (h1 : Below W.heap.size W W1) (h2 : (Kd.S (Kd.slice 3 (Kd.int .i64)) 24) W2 w.heap.size (fun k => w.heap.size + 3 ≤ k) v1 (pre.map (Bat.part l sz) ++ [Bat.part l sz x])) (hb2 : Below w.heap.size w W2) (hg : W1.grownBy W2 v.ownBlock) :
    KeepsFrom (w.heap.size + 3) W (W2.setCell ⟨w.heap.size, 0, none⟩ v1) ∧ KpX (w.heap.size + 3) w.heap.size W (W2.setCell ⟨w.heap.size, 0, none⟩ v1) ∧ Inv w l sz (pre ++ [x]) (W2.setCell ⟨w.heap.size, 0, none⟩ v1) := by
  have hs1 : W.heap.size ≤ W1.heap.size := h1.size
  have hs2 : W1.heap.size ≤ W2.heap.size := hg.size
  have hrow : ∀ k, v.ownBlock = some k → w.heap.size + 3 ≤ k ∧ ∃ cells, W.heap[k]? = some (.cells cells 24 (0, 0)) := by
    intro k hk
    have hR0 := Kd.S_R hR
    obtain ⟨h0, inner, ho, _⟩ := hR0
    exact ⟨h0 k hk, own_typed ho k hk⟩
  have hbo : Boxed W2 w.heap.size 34 v := by
    refine (hg.block _ (by have := hv.lt; omega) (fun e => ?_)).trans (boxed_at hv h1)
    have := (hrow _ e.symm).1; omega
  have hset : ∀ k, k ≠ w.heap.size → (W2.setCell ⟨w.heap.size, 0, none⟩ v1).heap[k]? = W2.heap[k]? := fun k hk => Below.heap_setCell W2 ⟨w.heap.size, 0, none⟩ v1 k hk
  have old : ∀ k, k < W.heap.size → k ≠ w.heap.size → some k ≠ v.ownBlock → (W2.setCell ⟨w.heap.size, 0, none⟩ v1).heap[k]? = W.heap[k]? := fun k hk h3 h4 =>
    (hset k h3).trans ((hg.block k (by omega) h4).trans (h1.block k hk))
  have hsz3 : (W2.setCell ⟨w.heap.size, 0, none⟩ v1).heap.size = W2.heap.size := by simp [World.setCell]
  refine ⟨⟨by rw [hsz3]; omega, fun k o hB hk ho => ?_⟩, ⟨by rw [hsz3]; omega, fun b hb hne => old b (by omega) hne (fun e => by have := (hrow b e.symm).1; omega)⟩, ⟨v1, hbo.set v1, ?_⟩, hb2.setCell (Nat.le_refl _) _, by rw [hsz3]; omega⟩
  · refine (old k (Array.getElem?_eq_some_iff.1 hk).1 (by omega) (fun e => ?_)).trans hk
    obtain ⟨_, cells, hc⟩ := hrow k e.symm
    rw [hc] at hk; cases hk; cases ho
  · rw [List.map_append, List.map_cons, List.map_nil]
    refine Kd.S_mono (Kd.S_move (Kd.S_bound h2) (fun k hk => hset k ?_)) (fun _ hk => hk.1)
    have := hk.1; omega
def BatPost (w : World) (l : List Int) (sz : Nat) (e : Ending) (w' : World) : Prop :=
  ∃ v : Value, e = .returned (.tuple #[v, .int .i64 0]) ∧ (Kd.S (Kd.slice 3 (Kd.int .i64)) 24) w' w.heap.size (fun _ => True) v (Bat.parts l sz) ∧ Below w.heap.size w w'
set_option maxRecDepth 100000 in
set_option maxHeartbeats 4000000 in
theorem batches_some (A : Option Addr) (cap : Nat) (l : List Int) (sz : Nat) (hsz1 : 1 ≤ sz) (hsz2 : sz ≤ 64) (hlen : l.length ≤ 1000000) (hcap : l.length ≤ cap) (w : World) (hl : (Kd.int .i64).C w A l.length l) :
    Calls Try.prog 15 #[.slice A l.length cap, .int .i64 (sz : Int)] w (BatPost w l sz) := by
  have hmx : Try.prog.follows .mixedOrders = true := by kernel_rfl
  have hd1 : decide ((sz : Int) < 1) = false := decide_eq_false (by omega)
  have hd2 : decide ((64 : Int) < (sz : Int)) = false := decide_eq_false (by omega)
  have hi1 : (1 : Int) ≤ (sz : Int) := by omega
  obtain ⟨ad, hA⟩ : ∃ ad, 0 < l.length → A = some ad := by
    rcases Nat.eq_zero_or_pos l.length with h | h
    · exact ⟨⟨0, 0, none⟩, fun h' => by omega⟩
    · obtain ⟨ad, e, _⟩ := hl.2.2 h
      exact ⟨ad, fun _ => e⟩
  refine (callsIn_wide (n := 4)).1 ?_
  refine callsIn_of_wp_marks Try.func15 rfl trivial ?_ rfl
  simp only [Try.ntmps15, List.size_toArray, List.length_cons, List.length_nil, Nat.reduceAdd, Nat.reduceSub, Array.replicate_succ, Array.replicate_zero, List.push_toArray, List.append_toArray, List.nil_append, List.cons_append]
  gi_wp2_with (refine ⟨trivial, ?_⟩; gi_at_call 19; refine (callsIn_wide.2 (chunk_any _ _ _ _ hi1 _)).mono ?_; rintro e w' ⟨rfl, rfl⟩)
  have hC : ((((w.alloc (.cells #[.slice none 0 0] 34)).alloc (.cells #[.slice A l.length cap] 24)).alloc (.cells #[.int .i64 (sz : Int)] 3))).heap.size = w.heap.size + 3 := by simp
  have hB0 : Below w.heap.size w ((((w.alloc (.cells #[.slice none 0 0] 34)).alloc (.cells #[.slice A l.length cap] 24)).alloc (.cells #[.int .i64 (sz : Int)] 3))) := (((Below.refl _ w).alloc (Nat.le_refl _) _).alloc (by simp) _).alloc (by simp; omega) _
  have bO := (((Boxed.new w 34 (.slice none 0 0)).alloc (.cells #[.slice A l.length cap] 24)).alloc (.cells #[.int .i64 (sz : Int)] 3))
  have bS := (Boxed.new (w.alloc (.cells #[.slice none 0 0] 34)) 24 (.slice A l.length cap)).alloc (.cells #[.int .i64 (sz : Int)] 3)
  have bN := Boxed.new ((w.alloc (.cells #[.slice none 0 0] 34)).alloc (.cells #[.slice A l.length cap] 24)) 3 (.int .i64 (sz : Int))
  simp only [World.size_alloc] at bS bN
  refine wpIn_rangeFunc_ownG (n := 4) (N := l.length) (S := fun ys => ys = List.range ((l.length + sz - 1) / sz)) (Sp := fun _ => True) rfl (by omega) (gf := 23) (lb := #[.pointer (some ⟨w.heap.size + 1, 0, none⟩), .pointer (some ⟨w.heap.size + 1 + 1, 0, none⟩)]) rfl trivial (enters_of Try.func23 (by kernel_rfl) rfl)
    (chunk_stops (4 - 1) (by omega) (w.heap.size + 1) (w.heap.size + 3) w.heap.size A ad l.length cap sz hA hlen hcap hsz1 hsz2 (by omega) (by omega) (by omega) (by omega) _ (by rw [hC]; omega) bS.cell bN.cell)
    (fun h k => KpX.trans h k) (fun W' l' o o' hl' _ _ _ => ⟨by simp, fun b hb _ => World.putObj_heap_other (by rw [hC] at hl'; omega)⟩) (Below.refl _ _) (fun _ => rfl)
    (Inv w l sz) (fun _ _ _ => False) (inv_own w l sz _ (by rw [hC]; omega)) (fun _ _ _ _ _ hs _ _ => hs)
    ⟨⟨_, bO, Kd.S_nil _ _ _ _ _⟩, hB0, by rw [hC]; omega⟩
    (fun x => { tmps := #[.slice A l.length cap, .int .i64 (sz : Int), undef, undef, .slice none 0 0, .int .i64 0, .pointer (some ⟨w.heap.size, 0, none⟩), .slice (some (ad.add (x * sz))) (min sz (l.length - x * sz)) (min sz (l.length - x * sz)), .int .i64 (sz : Int), .bool false, .bool false, .int .i64 (sz : Int), .bool false, .bool false, .slice A l.length cap, .int .i64 (sz : Int), .func (.func 23) #[] #[.pointer (some ⟨w.heap.size + 1, 0, none⟩), .pointer (some ⟨w.heap.size + 1 + 1, 0, none⟩)], .slice (some (ad.add (x * sz))) (min sz (l.length - x * sz)) (min sz (l.length - x * sz)), undef, undef, undef, undef, undef, undef], defers := [] }) ?assign ?body ?done ?stop
  case assign =>
    intro l' x W K hK
    unfold Bat.encs
    gi_wp2
    exact hK
  case body =>
    intro l' pre x W hI hlt
    obtain ⟨⟨v, hv, hR⟩, hB, hle3⟩ := hI
    have hI : Inv w l sz pre W := ⟨⟨v, hv, hR⟩, hB, hle3⟩
    rw [hC]
    obtain ⟨qs, hqs⟩ : ∃ qs, qs = pre.map (Bat.part l sz) := ⟨_, rfl⟩
    rw [← hqs] at hR
    obtain ⟨Av, cv, rfl⟩ := Kd.S_slice hR
    obtain ⟨p, hp⟩ : ∃ p, p = Bat.part l sz x := ⟨_, rfl⟩
    have hpl := part_length l sz x
    have hreads : (Kd.int .i64).C w (some (ad.add (x * sz))) (Bat.part l sz x).length (Bat.part l sz x) := by
      rcases Nat.eq_zero_or_pos l.length with h | h
      · refine ⟨rfl, by rw [hpl]; omega, fun hp => ?_⟩
        rw [hpl, h] at hp; omega
      · rw [hA h] at hl; exact part_reads hl sz x
    rw [← hp] at hpl hreads
    rw [← hpl]
    have HP := Aside0.mk hp
    have HQ := Aside0.mk hqs
    have HRD := Aside0.mk hreads
    have HPL := Aside0.mk (show p.length ≤ 64 by omega)
    have HI := Aside0.mk hI
    have HV := Aside0.mk hv
    have HR := Aside0.mk hR
    have HB := Aside0.mk hB
    have H3 := Aside0.mk hle3
    have HQL := Aside0.mk (show qs.length ≤ 1000000 by rw [hqs, List.length_map]; omega)
    have HBO := Aside0.mk hB0
    clear hp hqs hreads hpl hI hv hR hB hle3 hlt hC hB0 bO bS bN hl
    gi_wp2
    refine start_round (n := 6) (S := fun w' => w'.cell? ⟨w.heap.size, 0, none⟩ = some (.slice Av qs.length cv)) (ds := [5]) #[false, false, false, false, false, false] hmx rfl rfl (by rintro ⟨a, w', h⟩; exact h) (by kernel_rfl) HV.out.cell (fun hHeld => ?_)
    refine take_ (i := 0) (N := some 18) (v := ?_) (a' := ?_) #[true, false, false, false, false, false] rfl rfl (by kernel_rfl) (fun _ _ _ h => h) (Or.inl ⟨by rfl, ?_⟩) hHeld ?_ ?_
    rotate_left
    · intro w' s0
      go_simp
      with_reducible rfl
    rotate_left
    · simp only [Act.put, List.setIfInBounds_toArray, List.set_cons_zero, List.set_cons_succ]
      rfl
    refine pure_ (i := 1) (N := some 19) (v := ?_) (a' := ?_) #[true, true, false, false, false, false] rfl rfl (by kernel_rfl) (fun _ _ _ h => h) (Or.inl ⟨by rfl, ?_⟩) ?_ ?_
    rotate_left
    · intro w'
      go_simp
      with_reducible rfl
    rotate_left
    · simp only [Act.put, List.setIfInBounds_toArray, List.set_cons_zero, List.set_cons_succ]
      rfl
    refine one_ (i := 2) (N := some 20) #[true, true, true, false, false, false] rfl rfl (by kernel_rfl) (by decide) (fun K hK => ?_)
    refine goes_ Try.func20 (by kernel_rfl) rfl #[.slice (some (ad.add (x * sz))) p.length p.length] (by rfl) rfl rfl (by simp only [List.map_toArray, List.map_cons, List.map_nil]; rfl) ?_
    have hcl : slices_Clone_int_int.f p = some p := by
      unfold slices_Clone_int_int.f
      have := HPL.out
      simp only [Option.bind_some, List.length_nil, List.nil_append]
      rw [if_pos (by omega)]
    with_reducible refine (slices_Clone_int_int.calls (some (ad.add (x * sz))) p.length p p W.drew (by have := HRD.out; exact Kd.C_below this HB.out.drew) (Nat.le_refl _) hcl).mono ?_
    rintro e w1 ⟨v0, rfl, hR0, hb1⟩
    refine ⟨_, rfl, ?_⟩
    have hb1' : Below W.heap.size W w1 := ⟨hb1.os, hb1.tape, hb1.output, hb1.size, hb1.block⟩
    refine hK.out _ _ (boxed_at HV.out hb1').cell (fun hHeld => ?_)
    clear hK K
    refine norm_ (a' := ?_) ?_ ?_
    rotate_left
    · show Act.put _ (some 20) _ = _
      simp only [Act.put, List.setIfInBounds_toArray, List.set_cons_zero, List.set_cons_succ]
      rfl
    obtain ⟨A0, c0, rfl⟩ := Kd.R_slice hR0
    have HR0 := Aside0.mk hR0
    have HB1 := Aside0.mk hb1'
    clear hR0 hb1 hb1' hcl
    refine one_ (i := 3) (N := some 21) #[true, true, true, true, false, false] rfl rfl (by kernel_rfl) (by decide) (fun K hK => ?_)
    refine value_ (w1 := ?_) (v := ?_) (by rfl) rfl ?_ ?_
    rotate_left 2
    · go_simp
      constructor
      · rfl
      · rfl
    refine hK.out _ _ ((boxed_at HV.out HB1.out).alloc _).cell (fun hHeld => ?_)
    clear hK K
    refine norm_ (a' := ?_) ?_ ?_
    rotate_left
    · show Act.put _ (some 21) _ = _
      simp only [Act.put, List.setIfInBounds_toArray, List.set_cons_zero, List.set_cons_succ]
      rfl
    refine one_ (i := 4) (N := some 22) #[true, true, true, true, true, false] rfl rfl (by kernel_rfl) (by decide) (fun K hK => ?_)
    have hRw1 : (Kd.S (Kd.slice 3 (Kd.int .i64)) 24) w1 w.heap.size (fun k => w.heap.size + 3 ≤ k ∧ ¬ W.heap.size ≤ k) (.slice Av qs.length cv) qs := Kd.S_mono (Kd.S_old HR.out HB1.out) (fun k hk => ⟨hk.1, by have := hk.2; omega⟩)
    have hBw1 : Below w.heap.size w w1 := HB.out.trans (HB1.out.mono HB.out.size)
    refine Kd.S_append_step (Kd.slice 3 (Kd.int .i64)) (w0 := w) w.heap.size (by rfl) (.tmp 18) (.tmp 21) 34 24 (.slice none 0 0) 24 rfl Try.underlying34 info24_ rfl (by decide) (by omega) (.slice Av qs.length cv) qs p [.slice A0 p.length c0] (fun k => w.heap.size + 3 ≤ k) (fun k => W.heap.size ≤ k) (by rfl) (by rfl) ?aP ?aK ?aF hRw1 hBw1 hBw1.size ?aL ?_
    case aP => exact Kd.M_row (Kd.R_lower (Kd.R_mono (Kd.R_bound HR0.out) (fun k hk => hk.2.1)) HB.out.size)
    case aK =>
      intro k hk
      have h3 := H3.out
      refine ⟨by omega, fun e => ?_⟩
      have := Kd.S_lt HR.out k e.symm
      omega
    case aF =>
      intro k hk
      have h3 := H3.out
      have := HB1.out.size
      omega
    case aL => have := HQL.out; omega
    intro v1 w2 ho2 hb2 hg2 _
    obtain ⟨A1, c1, rfl⟩ := Kd.S_slice ho2
    have hre := round_end (x := x) H3.out HI.out HV.out (by rw [← HQ.out]; exact HR.out) HB1.out (by rw [← HQ.out, ← HP.out]; exact ho2) hb2 hg2
    have HRE := Aside0.mk hre
    have hbox2 : Boxed w2 w.heap.size 34 (.slice Av qs.length cv) := by
      refine (hg2.block _ ?_ (fun e => ?_)).trans (boxed_at HV.out HB1.out)
      · have := HV.out.lt; have := HB1.out.size; omega
      · have := (Kd.S_R HR.out).1 _ e.symm; omega
    have HBX := Aside0.mk hbox2
    clear hre hbox2 ho2 hb2 hg2 hRw1 hBw1
    refine hK.out _ _ HBX.out.cell (fun hHeld => ?_)
    clear hK K
    refine norm_ (a' := ?_) ?_ ?_
    rotate_left
    · show Act.put _ (some 22) _ = _
      simp only [Act.put, List.setIfInBounds_toArray, List.set_cons_zero, List.set_cons_succ]
      rfl
    refine last_ (i := 5) (N := none) #[true, true, true, true, true, true] rfl rfl (by kernel_rfl) (by decide) (fun K hK => ?_)
    have hs := HBX.out.cell
    have hf := HBX.out.frozen
    refine skip_ (w1 := ?_) (by rfl) rfl ?_ ?_
    rotate_left
    · go_simp
      rfl
    refine hK.out _ _ ?_
    clear hK K
    refine done_ (by kernel_rfl) ?_
    have hre := HRE.out
    rw [List.length_append, List.length_singleton] at hre
    exact hre
  case done =>
    rintro D ys W hD rfl ⟨⟨v, hv, hR⟩, hB, _⟩ hK
    have hc := hv.cell
    rw [hC] at hD
    have HR := Aside0.mk hR
    have HB := Aside0.mk hB
    have HK := Aside0.mk hK
    have HD := Aside0.mk hD
    clear hR hB hD hB0 bO bS bN hl
    gi_wp2
    refine ⟨by simp, .inl ⟨_, _, rfl, run_takeDeferred HK.out, ?_⟩⟩
    refine ⟨_, results_tmp2 rfl _ _ _, v, rfl, ?_, ?_⟩
    · refine Kd.S_mono (Kd.S_move (Kd.S_bound HR.out) (fun k hk => ?_)) (fun _ _ => trivial)
      obtain ⟨_, _, _, q, _, cells, hcc⟩ := hk
      refine World.putObj_heap_other (fun e => ?_)
      subst e
      rw [HK.out] at hcc; cases hcc
    · exact HB.out.trans (belowK_b (w := w) (Nat.le_refl _) W D _ _ (by have := HD.out; omega) HK.out rfl rfl)
  case stop =>
    rintro D c pre W _ _ h _
    exact h.elim
end Go.Proofs.Ytkbonmhegojfdaa.Bat2
