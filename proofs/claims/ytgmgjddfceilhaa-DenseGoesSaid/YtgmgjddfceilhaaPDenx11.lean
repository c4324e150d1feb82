-- printed by wip/tools/xp.py of this project (not trusted: Lean checks it)
import Derived.Test.YtgmgjddfceilhaaPDenx0
import Derived.Test.YtgmgjddfceilhaaPDenx9
namespace Go.Proofs.Ytgmgjddfceilhaa.PDen
open Go.RowKit Go.Proofs.YtgmgjddfceilhaaW.PrintWords Go.Proofs.YtgmgjddfceilhaaW.PrintLast Go.Proofs.YtgmgjddfceilhaaW.PrintMore Go.Proofs.Ytgmgjddfceilhaa.XW
attribute [local go_sem] max2_int min2_int max_two min_two max_three min_three max_four min_four max_five min_five   -- for this text's walks alone
set_option linter.unusedVariables false
set_option linter.unusedSimpArgs false

/-! ### athanorlaw06_same: function 12 -/
mutual
def athanorlaw06_same.j0 : Nat → List Int → Bool → List Int → List Int → Option (Bool)
 | 0, _, _, _, _ => none
 | k + 1, x2, x20, x290000, x290001 => if x20 = true then (some false) else (athanorlaw06_same.l0 k x2 (x2.length : Int) 0 x290000 x290001)
def athanorlaw06_same.l0 : Nat → List Int → Int → Int → List Int → List Int → Option (Bool)
 | 0, _, _, _, _, _ => none
 | k + 1, x2, x22, x23, x290000, x290001 => if x23 < x22 then (if 0 ≤ x23 then (if x23 < (x290001.length : Int) then (if x23 < (x2.length : Int) then (if (rd x290001 x23) = (rd x2 x23) then (athanorlaw06_same.l0 k x2 x22 (wrap64 (x23 + 1)) x290000 x290001) else (some false)) else (none)) else (none)) else (none)) else (some true)
end
def athanorlaw06_same.f (k : Nat) (l0_0 : List Int) (l0_1 : List Int) (l1 : List Int) (l2 : List Int) : Option (Bool) := (athanorref03_Same.f k l0_0 l1).bind fun t290 => (if t290 = true then (athanorlaw06_same.j0 k l2 ((l0_1.length : Int) != (l2.length : Int)) l0_0 l0_1) else (athanorlaw06_same.j0 k l2 true l0_0 l0_1))
theorem athanorlaw06_same.mono_l : ∀ k, (∀ y0 y1 y2 y3, LeO (athanorlaw06_same.j0 k y0 y1 y2 y3) (athanorlaw06_same.j0 (k + 1) y0 y1 y2 y3)) ∧ (∀ y0 y1 y2 y3 y4, LeO (athanorlaw06_same.l0 k y0 y1 y2 y3 y4) (athanorlaw06_same.l0 (k + 1) y0 y1 y2 y3 y4))
 | 0 => ⟨fun _ _ _ _ r h => by simp [athanorlaw06_same.j0] at h, fun _ _ _ _ _ r h => by simp [athanorlaw06_same.l0] at h⟩
 | k + 1 => by
  obtain ⟨ih0, ih1⟩ := athanorlaw06_same.mono_l k
  refine ⟨?_, ?_⟩
  ·intro y0 y1 y2 y3
   unfold athanorlaw06_same.j0
   repeat' first
   | (with_reducible exact ih0 _ _ _ _)
   | (with_reducible exact ih1 _ _ _ _ _)
   | (with_reducible exact athanorref03_Same.mono _ _ _)
   | (with_reducible exact LeO.refl _)
   | (with_reducible exact LeO.none _)
   | (with_reducible refine LeO.ite ?_ ?_)
   | (with_reducible refine LeO.bind ?_ (fun _ => ?_))
   | exact ih0 _ _ _ _
   | exact ih1 _ _ _ _ _
   | exact athanorref03_Same.mono _ _ _
   | exact LeO.none _
   | refine LeO.ite ?_ ?_
   | refine LeO.bind ?_ (fun _ => ?_)
  ·intro y0 y1 y2 y3 y4
   unfold athanorlaw06_same.l0
   repeat' first
   | (with_reducible exact ih0 _ _ _ _)
   | (with_reducible exact ih1 _ _ _ _ _)
   | (with_reducible exact athanorref03_Same.mono _ _ _)
   | (with_reducible exact LeO.refl _)
   | (with_reducible exact LeO.none _)
   | (with_reducible refine LeO.ite ?_ ?_)
   | (with_reducible refine LeO.bind ?_ (fun _ => ?_))
   | exact ih0 _ _ _ _
   | exact ih1 _ _ _ _ _
   | exact athanorref03_Same.mono _ _ _
   | exact LeO.none _
   | refine LeO.ite ?_ ?_
   | refine LeO.bind ?_ (fun _ => ?_)
theorem athanorlaw06_same.mono : ∀ a0 a1 a2 a3 k, LeO (athanorlaw06_same.f k a0 a1 a2 a3) (athanorlaw06_same.f (k + 1) a0 a1 a2 a3) := by
 intro a0 a1 a2 a3 k
 obtain ⟨ih0, ih1⟩ := athanorlaw06_same.mono_l k
 unfold athanorlaw06_same.f
 repeat' first
   | (with_reducible exact ih0 _ _ _ _)
   | (with_reducible exact ih1 _ _ _ _ _)
   | (with_reducible exact athanorref03_Same.mono _ _ _)
   | (with_reducible exact LeO.refl _)
   | (with_reducible exact LeO.none _)
   | (with_reducible refine LeO.ite ?_ ?_)
   | (with_reducible refine LeO.bind ?_ (fun _ => ?_))
   | exact ih0 _ _ _ _
   | exact ih1 _ _ _ _ _
   | exact athanorref03_Same.mono _ _ _
   | exact LeO.none _
   | refine LeO.ite ?_ ?_
   | refine LeO.bind ?_ (fun _ => ?_)
set_option maxHeartbeats 8000000 in
set_option maxRecDepth 100000 in
theorem athanorlaw06_same.calls (k : Nat) (A0_0 : Option Addr) (c0_0 : Nat) (l0_0 : List Int) (A0_1 : Option Addr) (c0_1 : Nat) (l0_1 : List Int) (A1 : Option Addr) (c1 : Nat) (l1 : List Int) (A2 : Option Addr) (c2 : Nat) (l2 : List Int) (r : Bool) (w : World) (hr0_0 : Kd.C (Kd.int .i64) w A0_0 l0_0.length l0_0) (hc0_0 : l0_0.length ≤ c0_0) (hr0_1 : Kd.C (Kd.int .i64) w A0_1 l0_1.length l0_1) (hc0_1 : l0_1.length ≤ c0_1) (hr1 : Kd.C (Kd.int .i64) w A1 l1.length l1) (hc1 : l1.length ≤ c1) (hr2 : Kd.C (Kd.int .i64) w A2 l2.length l2) (hc2 : l2.length ≤ c2) (h : athanorlaw06_same.f k l0_0 l0_1 l1 l2 = some r) :
  Calls Try.prog 12 #[.agg #[.slice A0_0 l0_0.length c0_0, .slice A0_1 l0_1.length c0_1], .slice A1 l1.length c1, .slice A2 l2.length c2] w fun e w' => e = .returned (.bool r) ∧ Below w.heap.size w w' := by
 have hu26 := Try.underlying26
 have HR0_0 := Aside0.mk hr0_0
 have HC0_0 := Aside0.mk hc0_0
 clear hr0_0 hc0_0
 have HR0_1 := Aside0.mk hr0_1
 have HC0_1 := Aside0.mk hc0_1
 clear hr0_1 hc0_1
 have HR1 := Aside0.mk hr1
 have HC1 := Aside0.mk hc1
 clear hr1 hc1
 have HR2 := Aside0.mk hr2
 have HC2 := Aside0.mk hc2
 clear hr2 hc2
 have HB := aM (Below.refl w.heap.size w)
 have H : ((athanorref03_Same.f k l0_0 l1).bind fun t290 => (if t290 = true then (athanorlaw06_same.j0 k l2 ((l0_1.length : Int) != (l2.length : Int)) l0_0 l0_1) else (athanorlaw06_same.j0 k l2 true l0_0 l0_1))) = some r := h
 clear h
 have HC4 := Aside0.mk H
 clear H
 go_enter Try.func12, Try.ntmps12
 go_upto_region 1 with (first | ((with_reducible refine gate_dst (N := 3) rfl ?_); (try (refine gate_guard (by rfl) ?_; dsimp only)); refine box_event ?hg (N := 3) ?hd (cs := #[.slice A0_0 l0_0.length c0_0, .slice A0_1 l0_1.length c0_1]) (t := 26) ?hr ?_; (case hd => rfl); (case hg => rfl); (case hr => first | (go_simp; done) | (go_simp; rfl)); intro gb289 hg w5 hbox hb; have n0_ := aM (below_step (by repeat (first | (with_reducible first|exact HB.out|apply bA|apply bN|apply bD)|exact HB.out)) hb); have n1_ := aM (hbox); have n2_ := aM ((by rw [hg]; exact (below_size (by repeat (first | (with_reducible first|exact HB.out|apply bA|apply bN|apply bD)|exact HB.out))) : w.heap.size ≤ gb289)); have n3_ := aM ((by rw [hg]; exact (below_size (by repeat (first | (with_reducible first|exact HB.out|apply bA|apply bN|apply bD)|exact HB.out))) : w.heap.size ≤ gb289)); clear HB; have HB := n0_; have BK289 := n1_; have GW289 := n2_; have GE289 := n3_; clear n0_ n1_ n2_ n3_; clear hb hbox hg))
 repeat (go_quiet (first | ((with_reducible refine gate_dst (N := 3) rfl ?_); (try (refine gate_guard (by rfl) ?_; dsimp only)); refine box_event ?hg (N := 3) ?hd (cs := #[.slice A0_0 l0_0.length c0_0, .slice A0_1 l0_1.length c0_1]) (t := 26) ?hr ?_; (case hd => rfl); (case hg => rfl); (case hr => first | (go_simp; done) | (go_simp; rfl)); intro gb289 hg w5 hbox hb; have n0_ := aM (below_step (by repeat (first | (with_reducible first|exact HB.out|apply bA|apply bN|apply bD)|exact HB.out)) hb); have n1_ := aM (hbox); have n2_ := aM ((by rw [hg]; exact (below_size (by repeat (first | (with_reducible first|exact HB.out|apply bA|apply bN|apply bD)|exact HB.out))) : w.heap.size ≤ gb289)); have n3_ := aM ((by rw [hg]; exact (below_size (by repeat (first | (with_reducible first|exact HB.out|apply bA|apply bN|apply bD)|exact HB.out))) : w.heap.size ≤ gb289)); clear HB; have HB := n0_; have BK289 := n1_; have GW289 := n2_; have GE289 := n3_; clear n0_ n1_ n2_ n3_; clear hb hbox hg)); go_upto_region 1 with (first | ((with_reducible refine gate_dst (N := 3) rfl ?_); (try (refine gate_guard (by rfl) ?_; dsimp only)); refine box_event ?hg (N := 3) ?hd (cs := #[.slice A0_0 l0_0.length c0_0, .slice A0_1 l0_1.length c0_1]) (t := 26) ?hr ?_; (case hd => rfl); (case hg => rfl); (case hr => first | (go_simp; done) | (go_simp; rfl)); intro gb289 hg w5 hbox hb; have n0_ := aM (below_step (by repeat (first | (with_reducible first|exact HB.out|apply bA|apply bN|apply bD)|exact HB.out)) hb); have n1_ := aM (hbox); have n2_ := aM ((by rw [hg]; exact (below_size (by repeat (first | (with_reducible first|exact HB.out|apply bA|apply bN|apply bD)|exact HB.out))) : w.heap.size ≤ gb289)); have n3_ := aM ((by rw [hg]; exact (below_size (by repeat (first | (with_reducible first|exact HB.out|apply bA|apply bN|apply bD)|exact HB.out))) : w.heap.size ≤ gb289)); clear HB; have HB := n0_; have BK289 := n1_; have GW289 := n2_; have GE289 := n3_; clear n0_ n1_ n2_ n3_; clear hb hbox hg)))
 (try simp only [Act.put, List.setIfInBounds_toArray, List.set_cons_zero, List.set_cons_succ])
 go_cut [20] (fun v20 wc => ∃ (kq : Nat) (x20_3 : Bool), v20 = .bool x20_3 ∧ Aside0 (athanorlaw06_same.j0 kq l2 x20_3 l0_0 l0_1 = some r) ∧ Aside0 (kq ≤ k) ∧ Aside0 (wc.heap[gb289]? = some (.cells #[(.slice A0_0 l0_0.length c0_0), (.slice A0_1 l0_1.length c0_1)] 26 (0, 0))) ∧ Aside0 (Below w.heap.size w wc))
 case first =>
  have H := HC4.out
  clear HC4
  replace H := Option.bind_eq_some_iff.mp H
  obtain ⟨t290, A60, H⟩ := H
  replace H : (if t290 = true then (athanorlaw06_same.j0 k l2 ((l0_1.length : Int) != (l2.length : Int)) l0_0 l0_1) else (athanorlaw06_same.j0 k l2 true l0_0 l0_1)) = some r := H
  have A6 := Aside0.mk A60
  clear A60
  by_cases c7 : t290 = true
  ·subst c7
   have H1 : (athanorlaw06_same.j0 k l2 ((l0_1.length : Int) != (l2.length : Int)) l0_0 l0_1) = some r := by rw [if_pos rfl] at H; exact H
   clear H
   have H := H1
   clear H1
   as_aux_lemma =>
    have H' := Aside0.mk H
    clear H
    have hcz8_0 : w5.cell? ⟨gb289, 0, none⟩ = some (.slice A0_0 l0_0.length c0_0) := (blk_cell BK289.out 0).trans rfl
    have hcz8_1 : w5.cell? ⟨gb289, 1, none⟩ = some (.slice A0_1 l0_1.length c0_1) := (blk_cell BK289.out 1).trans rfl
    have hfz8_0 := blk_frozen BK289.out 0
    have hfz8_1 := blk_frozen BK289.out 1
    go_wp2_with (first | (go_at_call 17; (with_reducible refine (athanorref03_Same.calls k _ _ l0_0 _ _ l1 true _ ?side1 ?side2 ?side3 ?side4 A6.out).mono ?_); (case side1 => repeat (first|exact (Kd.C_below HR0_0.out HB.out) | with_reducible first|apply cA|apply cN|apply cD)); (case side2 => exact HC0_0.out); (case side3 => repeat (first|exact (Kd.C_below HR1.out HB.out) | with_reducible first|apply cA|apply cN|apply cD)); (case side4 => exact HC1.out); rintro e w' ⟨rfl, ⟨nd, rfl⟩⟩; (try first|exact ⟨rfl, _, World.drewN_drewN _ _ _⟩|exact ⟨rfl, _, Eq.trans (World.drewN_drewN _ _ _) (congrArg (World.drewN _) (Nat.add_assoc _ _ _))⟩)))
    repeat (go_quiet (first | (go_at_call 17; (with_reducible refine (athanorref03_Same.calls k _ _ l0_0 _ _ l1 true _ ?side1 ?side2 ?side3 ?side4 A6.out).mono ?_); (case side1 => repeat (first|exact (Kd.C_below HR0_0.out HB.out) | with_reducible first|apply cA|apply cN|apply cD)); (case side2 => exact HC0_0.out); (case side3 => repeat (first|exact (Kd.C_below HR1.out HB.out) | with_reducible first|apply cA|apply cN|apply cD)); (case side4 => exact HC1.out); rintro e w' ⟨rfl, ⟨nd, rfl⟩⟩; (try first|exact ⟨rfl, _, World.drewN_drewN _ _ _⟩|exact ⟨rfl, _, Eq.trans (World.drewN_drewN _ _ _) (congrArg (World.drewN _) (Nat.add_assoc _ _ _))⟩))); try go_wp2_with (first | (go_at_call 17; (with_reducible refine (athanorref03_Same.calls k _ _ l0_0 _ _ l1 true _ ?side1 ?side2 ?side3 ?side4 A6.out).mono ?_); (case side1 => repeat (first|exact (Kd.C_below HR0_0.out HB.out) | with_reducible first|apply cA|apply cN|apply cD)); (case side2 => exact HC0_0.out); (case side3 => repeat (first|exact (Kd.C_below HR1.out HB.out) | with_reducible first|apply cA|apply cN|apply cD)); (case side4 => exact HC1.out); rintro e w' ⟨rfl, ⟨nd, rfl⟩⟩; (try first|exact ⟨rfl, _, World.drewN_drewN _ _ _⟩|exact ⟨rfl, _, Eq.trans (World.drewN_drewN _ _ _) (congrArg (World.drewN _) (Nat.add_assoc _ _ _))⟩))))
    go_meet
    case rel => exact ⟨_, (((l0_1.length : Int) != (l2.length : Int))), (by first | rfl | (simp; done) | (simp [*]; done)), H', ⟨by first | omega|exact Nat.le_refl _⟩, ⟨by (with_reducible repeat (first|apply kN|apply kD|apply kA)); exact BK289.out⟩, ⟨by repeat (first | (with_reducible first|exact HB.out|apply bA|apply bN|apply bD|refine bS ?_ GE289.out)|exact HB.out)⟩⟩
  ·replace c7 := Bool.eq_false_iff.mpr c7
   subst c7
   have H1 : (athanorlaw06_same.j0 k l2 true l0_0 l0_1) = some r := by rw [if_neg (show ¬ (false = true) by decide)] at H; exact H
   clear H
   have H := H1
   clear H1
   as_aux_lemma =>
    have H' := Aside0.mk H
    clear H
    have hcz9_0 : w5.cell? ⟨gb289, 0, none⟩ = some (.slice A0_0 l0_0.length c0_0) := (blk_cell BK289.out 0).trans rfl
    have hcz9_1 : w5.cell? ⟨gb289, 1, none⟩ = some (.slice A0_1 l0_1.length c0_1) := (blk_cell BK289.out 1).trans rfl
    have hfz9_0 := blk_frozen BK289.out 0
    have hfz9_1 := blk_frozen BK289.out 1
    go_wp2_with (first | (go_at_call 17; (with_reducible refine (athanorref03_Same.calls k _ _ l0_0 _ _ l1 false _ ?side1 ?side2 ?side3 ?side4 A6.out).mono ?_); (case side1 => repeat (first|exact (Kd.C_below HR0_0.out HB.out) | with_reducible first|apply cA|apply cN|apply cD)); (case side2 => exact HC0_0.out); (case side3 => repeat (first|exact (Kd.C_below HR1.out HB.out) | with_reducible first|apply cA|apply cN|apply cD)); (case side4 => exact HC1.out); rintro e w' ⟨rfl, ⟨nd, rfl⟩⟩; (try first|exact ⟨rfl, _, World.drewN_drewN _ _ _⟩|exact ⟨rfl, _, Eq.trans (World.drewN_drewN _ _ _) (congrArg (World.drewN _) (Nat.add_assoc _ _ _))⟩)))
    repeat (go_quiet (first | (go_at_call 17; (with_reducible refine (athanorref03_Same.calls k _ _ l0_0 _ _ l1 false _ ?side1 ?side2 ?side3 ?side4 A6.out).mono ?_); (case side1 => repeat (first|exact (Kd.C_below HR0_0.out HB.out) | with_reducible first|apply cA|apply cN|apply cD)); (case side2 => exact HC0_0.out); (case side3 => repeat (first|exact (Kd.C_below HR1.out HB.out) | with_reducible first|apply cA|apply cN|apply cD)); (case side4 => exact HC1.out); rintro e w' ⟨rfl, ⟨nd, rfl⟩⟩; (try first|exact ⟨rfl, _, World.drewN_drewN _ _ _⟩|exact ⟨rfl, _, Eq.trans (World.drewN_drewN _ _ _) (congrArg (World.drewN _) (Nat.add_assoc _ _ _))⟩))); try go_wp2_with (first | (go_at_call 17; (with_reducible refine (athanorref03_Same.calls k _ _ l0_0 _ _ l1 false _ ?side1 ?side2 ?side3 ?side4 A6.out).mono ?_); (case side1 => repeat (first|exact (Kd.C_below HR0_0.out HB.out) | with_reducible first|apply cA|apply cN|apply cD)); (case side2 => exact HC0_0.out); (case side3 => repeat (first|exact (Kd.C_below HR1.out HB.out) | with_reducible first|apply cA|apply cN|apply cD)); (case side4 => exact HC1.out); rintro e w' ⟨rfl, ⟨nd, rfl⟩⟩; (try first|exact ⟨rfl, _, World.drewN_drewN _ _ _⟩|exact ⟨rfl, _, Eq.trans (World.drewN_drewN _ _ _) (congrArg (World.drewN _) (Nat.add_assoc _ _ _))⟩))))
    go_meet
    case rel => exact ⟨_, (true), (by first | rfl | (simp; done) | (simp [*]; done)), H', ⟨by first | omega|exact Nat.le_refl _⟩, ⟨by (with_reducible repeat (first|apply kN|apply kD|apply kA)); exact BK289.out⟩, ⟨by repeat (first | (with_reducible first|exact HB.out|apply bA|apply bN|apply bD|refine bS ?_ GE289.out)|exact HB.out)⟩⟩
 case rest =>
  clear HC4
  (try clear c1); (try clear c2); (try clear c7); (try clear hcz8_0); (try clear hcz8_1); (try clear hcz9_0); (try clear hcz9_1); (try clear hfz8_0); (try clear hfz8_1); (try clear hfz9_0); (try clear hfz9_1)
  obtain ⟨kq, x20_3, rfl, HA, HJ3, BK289, HB⟩ := hcut
  cases kq with
  | zero => exact absurd HA.out (by simp [athanorlaw06_same.j0])
  | succ kj3 =>
   have H := HA.out
   clear HA
   simp only [athanorlaw06_same.j0] at H
   by_cases c10 : x20_3 = true
   ·subst c10
    have H1 : (some false) = some r := by rw [if_pos rfl] at H; exact H
    clear H
    have H := H1
    clear H1
    as_aux_lemma =>
     obtain rfl := Option.some.inj H
     go_wp2
     repeat (go_quiet (fail); try go_wp2)
     go_ret
     exact ⟨by first | rfl | (simp [errW_none, errW_some] <;> rfl) | (simp [*, errW_none, errW_some] <;> rfl), by repeat (first | (with_reducible first|exact HB.out|apply bA|apply bN|apply bD|refine bS ?_ GE289.out)|exact HB.out)⟩
   ·replace c10 := Bool.eq_false_iff.mpr c10
    subst c10
    have H1 : (athanorlaw06_same.l0 kj3 l2 (l2.length : Int) 0 l0_0 l0_1) = some r := by rw [if_neg (show ¬ (false = true) by decide)] at H; exact H
    clear H
    have H := H1
    clear H1
    have H' := Aside0.mk H
    clear H
    go_wp2
    repeat (go_quiet (fail); try go_wp2)
    go_loopg [23] kj3 (fun kq v23 w' => ∃ (x23_2 : Int), v23 = .int .i64 x23_2 ∧ Aside0 (athanorlaw06_same.l0 kq l2 (l2.length : Int) x23_2 l0_0 l0_1 = some r) ∧ Aside0 (kq ≤ kj3) ∧ Aside0 (w'.heap[gb289]? = some (.cells #[(.slice A0_0 l0_0.length c0_0), (.slice A0_1 l0_1.length c0_1)] 26 (0, 0))) ∧ Aside0 (Below w.heap.size w w'))
    case atStart => exact ⟨(0), (by first | rfl | (simp; done) | (simp [*]; done)), H', ⟨Nat.le_refl _⟩, ⟨by (with_reducible repeat (first|apply kN|apply kD|apply kA)); exact BK289.out⟩, ⟨by repeat (first | (with_reducible first|exact HB.out|apply bA|apply bN|apply bD|refine bS ?_ GE289.out)|exact HB.out)⟩⟩
    case round =>
     clear H'
     (try clear c1); (try clear c2); (try clear c7); (try clear c10); (try clear hcz8_0); (try clear hcz8_1); (try clear hcz9_0); (try clear hcz9_1); (try clear hfz8_0); (try clear hfz8_1); (try clear hfz9_0); (try clear hfz9_1)
     obtain ⟨x23_2, rfl, HA, HK2, BK289, HB⟩ := hrel
     cases gk with
     | zero => exact absurd HA.out (by simp [athanorlaw06_same.l0])
     | succ k2 =>
      have H := HA.out
      clear HA
      simp only [athanorlaw06_same.l0] at H
      by_cases c11 : x23_2 < (l2.length : Int)
      ·rw [if_pos c11] at H
       have c11b0 : decide (x23_2 < (l2.length : Int)) = true := decide_eq_true c11
       clear c11
       by_cases c12 : 0 ≤ x23_2
       ·rw [if_pos c12] at H
        have c12b0 : decide (0 ≤ x23_2) = true := decide_eq_true c12
        clear c12
        by_cases c13 : x23_2 < (l0_1.length : Int)
        ·rw [if_pos c13] at H
         have c13b0 : decide (x23_2 < (l0_1.length : Int)) = true := decide_eq_true c13
         clear c13
         by_cases c14 : x23_2 < (l2.length : Int)
         ·rw [if_pos c14] at H
          have c14b0 : decide (x23_2 < (l2.length : Int)) = true := decide_eq_true c14
          clear c14
          by_cases c15 : (rd l0_1 x23_2) = (rd l2 x23_2)
          ·rw [if_pos c15] at H
           have c15b0 : ((rd l0_1 x23_2) == (rd l2 x23_2)) = true := beq_iff_eq.mpr c15
           have c15b1 : ((rd l0_1 x23_2) != (rd l2 x23_2)) = false := bne_eq_false_iff_eq.mpr c15
           clear c15
           as_aux_lemma =>
            have H' := Aside0.mk H
            clear H
            have hcz16_0 : wr.cell? ⟨gb289, 0, none⟩ = some (.slice A0_0 l0_0.length c0_0) := (blk_cell BK289.out 0).trans rfl
            have hcz16_1 : wr.cell? ⟨gb289, 1, none⟩ = some (.slice A0_1 l0_1.length c0_1) := (blk_cell BK289.out 1).trans rfl
            have hfz16_0 := blk_frozen BK289.out 0
            have hfz16_1 := blk_frozen BK289.out 1
            have p291 : 0 ≤ (x23_2 : Int) := of_decide_eq_true (by first | (with_reducible assumption) | assumption)
            have q291 : x23_2 < (l0_1.length : Int) := of_decide_eq_true (by first | (with_reducible assumption) | assumption)
            obtain ⟨ad291, e291, hx291_0⟩ := Kd.at_int HR0_1.out x23_2 p291 q291
            cases e291
            replace hx291_0 := (HB.out.cell (World.block_lt_of_cell? w _ hx291_0)).trans hx291_0
            replace p291 := eq_true p291
            replace q291 := eq_true q291
            have p292 : 0 ≤ (x23_2 : Int) := of_decide_eq_true (by first | (with_reducible assumption) | assumption)
            have q292 : x23_2 < (l2.length : Int) := of_decide_eq_true (by first | (with_reducible assumption) | assumption)
            obtain ⟨ad292, e292, hx292_0⟩ := Kd.at_int HR2.out x23_2 p292 q292
            cases e292
            replace hx292_0 := (HB.out.cell (World.block_lt_of_cell? w _ hx292_0)).trans hx292_0
            replace p292 := eq_true p292
            replace q292 := eq_true q292
            go_wp2
            repeat (go_quiet (fail); try go_wp2)
            go_roundg k2
            case measure => have := HJ3.out; have := HK2.out; omega
            case rel => exact ⟨(wrap64 (x23_2 + 1)), (by first | rfl | (simp; done) | (simp [*]; done)), H', ⟨by have := HJ3.out; have := HK2.out; omega⟩, ⟨by (with_reducible repeat (first|apply kN|apply kD|apply kA)); exact BK289.out⟩, ⟨by repeat (first | (with_reducible first|exact HB.out|apply bA|apply bN|apply bD|refine bS ?_ GE289.out)|exact HB.out)⟩⟩
          ·rw [if_neg c15] at H
           have c15b0 : ((rd l0_1 x23_2) == (rd l2 x23_2)) = false := beq_eq_false_iff_ne.mpr c15
           have c15b1 : ((rd l0_1 x23_2) != (rd l2 x23_2)) = true := bne_iff_ne.mpr c15
           as_aux_lemma =>
            obtain rfl := Option.some.inj H
            have hcz17_0 : wr.cell? ⟨gb289, 0, none⟩ = some (.slice A0_0 l0_0.length c0_0) := (blk_cell BK289.out 0).trans rfl
            have hcz17_1 : wr.cell? ⟨gb289, 1, none⟩ = some (.slice A0_1 l0_1.length c0_1) := (blk_cell BK289.out 1).trans rfl
            have hfz17_0 := blk_frozen BK289.out 0
            have hfz17_1 := blk_frozen BK289.out 1
            have p291 : 0 ≤ (x23_2 : Int) := of_decide_eq_true (by first | (with_reducible assumption) | assumption)
            have q291 : x23_2 < (l0_1.length : Int) := of_decide_eq_true (by first | (with_reducible assumption) | assumption)
            obtain ⟨ad291, e291, hx291_0⟩ := Kd.at_int HR0_1.out x23_2 p291 q291
            cases e291
            replace hx291_0 := (HB.out.cell (World.block_lt_of_cell? w _ hx291_0)).trans hx291_0
            replace p291 := eq_true p291
            replace q291 := eq_true q291
            have p292 : 0 ≤ (x23_2 : Int) := of_decide_eq_true (by first | (with_reducible assumption) | assumption)
            have q292 : x23_2 < (l2.length : Int) := of_decide_eq_true (by first | (with_reducible assumption) | assumption)
            obtain ⟨ad292, e292, hx292_0⟩ := Kd.at_int HR2.out x23_2 p292 q292
            cases e292
            replace hx292_0 := (HB.out.cell (World.block_lt_of_cell? w _ hx292_0)).trans hx292_0
            replace p292 := eq_true p292
            replace q292 := eq_true q292
            go_wp2
            repeat (go_quiet (fail); try go_wp2)
            go_ret
            exact ⟨by first | rfl | (simp [errW_none, errW_some] <;> rfl) | (simp [*, errW_none, errW_some] <;> rfl), by repeat (first | (with_reducible first|exact HB.out|apply bA|apply bN|apply bD|refine bS ?_ GE289.out)|exact HB.out)⟩
         ·rw [if_neg c14] at H
          exact absurd H (by simp)
        ·rw [if_neg c13] at H
         exact absurd H (by simp)
       ·rw [if_neg c12] at H
        exact absurd H (by simp)
      ·rw [if_neg c11] at H
       have c11b0 : decide (x23_2 < (l2.length : Int)) = false := decide_eq_false c11
       clear c11
       as_aux_lemma =>
        obtain rfl := Option.some.inj H
        go_wp2
        repeat (go_quiet (fail); try go_wp2)
        go_ret
        exact ⟨by first | rfl | (simp [errW_none, errW_some] <;> rfl) | (simp [*, errW_none, errW_some] <;> rfl), by repeat (first | (with_reducible first|exact HB.out|apply bA|apply bN|apply bD|refine bS ?_ GE289.out)|exact HB.out)⟩

/-! ### athanorref01_Add: function 23 -/
def athanorref01_Add.j0 : Nat → Int → Int → Bool → Option (Int)
 | 0, _, _, _ => none
 | k + 1, x0, x1, x12 => if x12 = true then (some 9223372036854775807) else (if x0 < 0 then (if x1 < (wrap64 ((-9223372036854775808) - x0)) then (some (-9223372036854775808)) else (some (wrap64 (x0 + x1)))) else (some (wrap64 (x0 + x1))))
def athanorref01_Add.f (k : Nat) (a0 : Int) (a1 : Int) : Option (Int) := if a0 > 0 then (athanorref01_Add.j0 k a0 a1 (decide (a1 > (wrap64 (9223372036854775807 - a0))))) else (athanorref01_Add.j0 k a0 a1 false)
theorem athanorref01_Add.mono_l : ∀ k, (∀ y0 y1 y2, LeO (athanorref01_Add.j0 k y0 y1 y2) (athanorref01_Add.j0 (k + 1) y0 y1 y2))
 | 0 => fun _ _ _ r h => by simp [athanorref01_Add.j0] at h
 | k + 1 => by
  have ih0 := athanorref01_Add.mono_l k
  ·intro y0 y1 y2
   unfold athanorref01_Add.j0
   repeat' first
   | (with_reducible exact ih0 _ _ _)
   | (with_reducible exact LeO.refl _)
   | (with_reducible exact LeO.none _)
   | (with_reducible refine LeO.ite ?_ ?_)
   | (with_reducible refine LeO.bind ?_ (fun _ => ?_))
   | exact ih0 _ _ _
   | exact LeO.none _
   | refine LeO.ite ?_ ?_
   | refine LeO.bind ?_ (fun _ => ?_)
theorem athanorref01_Add.mono : ∀ a0 a1 k, LeO (athanorref01_Add.f k a0 a1) (athanorref01_Add.f (k + 1) a0 a1) := by
 intro a0 a1 k
 have ih0 := athanorref01_Add.mono_l k
 unfold athanorref01_Add.f
 repeat' first
   | (with_reducible exact ih0 _ _ _)
   | (with_reducible exact LeO.refl _)
   | (with_reducible exact LeO.none _)
   | (with_reducible refine LeO.ite ?_ ?_)
   | (with_reducible refine LeO.bind ?_ (fun _ => ?_))
   | exact ih0 _ _ _
   | exact LeO.none _
   | refine LeO.ite ?_ ?_
   | refine LeO.bind ?_ (fun _ => ?_)
set_option maxHeartbeats 8000000 in
set_option maxRecDepth 100000 in
theorem athanorref01_Add.calls (k : Nat) (a0 : Int) (a1 : Int) (r : Int) (w : World) (h : athanorref01_Add.f k a0 a1 = some r) :
  Calls Try.prog 23 #[.int .i64 a0, .int .i64 a1] w fun e w' => e = .returned (.int .i64 r) ∧ Drawn0 w w' := by
 have H : (if a0 > 0 then (athanorref01_Add.j0 k a0 a1 (decide (a1 > (wrap64 (9223372036854775807 - a0))))) else (athanorref01_Add.j0 k a0 a1 false)) = some r := h
 clear h
 have HC3 := Aside0.mk H
 clear H
 go_enter Try.func23, Try.ntmps23
 go_upto_region 1 with (fail)
 go_cut [12] (fun v12 wc => ∃ (kq : Nat) (x12_2 : Bool), v12 = .bool x12_2 ∧ Aside0 (athanorref01_Add.j0 kq a0 a1 x12_2 = some r) ∧ Aside0 (kq ≤ k) ∧ Drawn0 w wc)
 case first =>
  have H := HC3.out
  clear HC3
  by_cases c4 : a0 > 0
  ·rw [if_pos c4] at H
   have c4b0 : decide (0 < a0) = true := decide_eq_true c4
   clear c4
   (first | rw [c4b0] | (simp only [i64_w, i32_w]; rw [c4b0]) | skip)
   as_aux_lemma =>
    have H' := Aside0.mk H
    clear H
    go_wp2
    go_meet
    case rel => exact ⟨_, (decide (a1 > (wrap64 (9223372036854775807 - a0)))), (by first | rfl | (simp; done) | (simp [*]; done)), H', ⟨by first | omega|exact Nat.le_refl _⟩, by repeat (first|exact Drawn0.refl _|apply Drawn0.step)⟩
  ·rw [if_neg c4] at H
   have c4b0 : decide (0 < a0) = false := decide_eq_false c4
   clear c4
   (first | rw [c4b0] | (simp only [i64_w, i32_w]; rw [c4b0]) | skip)
   as_aux_lemma =>
    have H' := Aside0.mk H
    clear H
    go_wp2
    go_meet
    case rel => exact ⟨_, (false), (by first | rfl | (simp; done) | (simp [*]; done)), H', ⟨by first | omega|exact Nat.le_refl _⟩, by repeat (first|exact Drawn0.refl _|apply Drawn0.step)⟩
 case rest =>
  clear HC3
  (try clear c4); (try clear c4b0)
  obtain ⟨kq, x12_2, rfl, HA, HJ2, ⟨mc2, rfl⟩⟩ := hcut
  cases kq with
  | zero => exact absurd HA.out (by simp [athanorref01_Add.j0])
  | succ kj2 =>
   have H := HA.out
   clear HA
   simp only [athanorref01_Add.j0] at H
   by_cases c5 : x12_2 = true
   ·subst c5
    have H1 : (some 9223372036854775807) = some r := by rw [if_pos rfl] at H; exact H
    clear H
    have H := H1
    clear H1
    as_aux_lemma =>
     obtain rfl := Option.some.inj H
     go_wp2
     go_ret
     exact ⟨by first | rfl | (simp; done) | (simp [*]; done), by repeat (first|exact Drawn0.refl _|apply Drawn0.step)⟩
   ·replace c5 := Bool.eq_false_iff.mpr c5
    subst c5
    have H1 : (if a0 < 0 then (if a1 < (wrap64 ((-9223372036854775808) - a0)) then (some (-9223372036854775808)) else (some (wrap64 (a0 + a1)))) else (some (wrap64 (a0 + a1)))) = some r := by rw [if_neg (show ¬ (false = true) by decide)] at H; exact H
    clear H
    have H := H1
    clear H1
    by_cases c6 : a0 < 0
    ·rw [if_pos c6] at H
     have c6b0 : decide (a0 < 0) = true := decide_eq_true c6
     clear c6
     by_cases c7 : a1 < (wrap64 ((-9223372036854775808) - a0))
     ·rw [if_pos c7] at H
      have c7b0 : decide (a1 < (wrap64 ((-9223372036854775808) - a0))) = true := decide_eq_true c7
      clear c7
      as_aux_lemma =>
       obtain rfl := Option.some.inj H
       go_wp2
       go_ret
       exact ⟨by first | rfl | (simp; done) | (simp [*]; done), by repeat (first|exact Drawn0.refl _|apply Drawn0.step)⟩
     ·rw [if_neg c7] at H
      have c7b0 : decide (a1 < (wrap64 ((-9223372036854775808) - a0))) = false := decide_eq_false c7
      clear c7
      as_aux_lemma =>
       obtain rfl := Option.some.inj H
       go_wp2
       go_ret
       exact ⟨by first | rfl | (simp; done) | (simp [*]; done), by repeat (first|exact Drawn0.refl _|apply Drawn0.step)⟩
    ·rw [if_neg c6] at H
     have c6b0 : decide (a0 < 0) = false := decide_eq_false c6
     clear c6
     as_aux_lemma =>
      obtain rfl := Option.some.inj H
      go_wp2
      go_ret
      exact ⟨by first | rfl | (simp; done) | (simp [*]; done), by repeat (first|exact Drawn0.refl _|apply Drawn0.step)⟩

/-! ### athanorref01_double: function 58 -/
def athanorref01_double.f (a0_0 : Int) (a0_1 : Int) : Option (Int × Int) := some (Go.bits .or .u64 (IntKind.u64.wrap (a0_0 * 2)) (a0_1 / 9223372036854775808), IntKind.u64.wrap (a0_1 * 2))
set_option maxHeartbeats 8000000 in
set_option maxRecDepth 100000 in
theorem athanorref01_double.calls (a0_0 : Int) (a0_1 : Int) (r1 : Int) (r2 : Int) (w : World) (h : athanorref01_double.f a0_0 a0_1 = some (r1, r2)) :
  Calls Try.prog 58 #[.agg #[.int .u64 a0_0, .int .u64 a0_1]] w fun e w' => e = .returned (.agg #[.int .u64 r1, .int .u64 r2]) ∧ Below w.heap.size w w' := by
 have hu73 := Try.underlying73
 have HB := aM (Below.refl w.heap.size w)
 have H : (some (Go.bits .or .u64 (IntKind.u64.wrap (a0_0 * 2)) (a0_1 / 9223372036854775808), IntKind.u64.wrap (a0_1 * 2))) = some (r1, r2) := h
 clear h
 as_aux_lemma =>
  simp only [Option.some.injEq, Prod.mk.injEq] at H
  obtain ⟨rfl, rfl⟩ := H
  go_enter Try.func58, Try.ntmps58
  go_wp2_with (first | ((with_reducible refine gate_dst (N := 1) rfl ?_); refine box_event ?hg (N := 1) ?hd (cs := #[.int .u64 a0_0, .int .u64 a0_1]) (t := 73) ?hr ?_; (case hd => rfl); (case hg => rfl); (case hr => first | (go_simp; done) | (go_simp; rfl)); intro gb293 hg w2 hbox hb; have n0_ := aM (below_step (by repeat (first | (with_reducible first|exact HB.out|apply bA|apply bN|apply bD)|exact HB.out)) hb); have n1_ := aM (hbox); have n2_ := aM ((by rw [hg]; exact (below_size (by repeat (first | (with_reducible first|exact HB.out|apply bA|apply bN|apply bD)|exact HB.out))) : w.heap.size ≤ gb293)); have n3_ := aM ((by rw [hg]; exact (below_size (by repeat (first | (with_reducible first|exact HB.out|apply bA|apply bN|apply bD)|exact HB.out))) : w.heap.size ≤ gb293)); clear HB; have HB := n0_; have BK293 := n1_; have GW293 := n2_; have GE293 := n3_; clear n0_ n1_ n2_ n3_; clear hb hbox hg) | ((with_reducible refine gate_dst (N := 2) rfl ?_); refine box_event ?hg (N := 2) ?hd (cs := #[.int .u64 0, .int .u64 0]) (t := 73) ?hr ?_; (case hd => rfl); (case hg => rfl); (case hr => first | (go_simp; done) | (go_simp; rfl)); intro gb294 hg w3 hbox hb; have n0_ := aM (blk_below (g := gb293) (o := .cells #[.int .u64 a0_0, .int .u64 a0_1] 73 (0, 0)) (by (with_reducible repeat (first|apply kN|apply kD|apply kA)); exact BK293.out) hb); have n1_ := aM (below_step (by repeat (first | (with_reducible first|exact HB.out|apply bA|apply bN|apply bD|refine bS ?_ GE293.out)|exact HB.out)) hb); have n2_ := aM (hbox); have n3_ := aM ((by rw [hg]; exact (below_size (by repeat (first | (with_reducible first|exact HB.out|apply bA|apply bN|apply bD|refine bS ?_ GE293.out)|exact HB.out))) : w.heap.size ≤ gb294)); have n4_ := aM ((by rw [hg]; exact (below_size (by repeat (first | (with_reducible first|exact HB.out|apply bA|apply bN|apply bD|refine bS ?_ GE293.out)|exact HB.out))) : w.heap.size ≤ gb294)); have n5_ := aM ((by rw [hg]; exact Nat.ne_of_lt (blk_lt (g := gb293) (o := .cells #[.int .u64 a0_0, .int .u64 a0_1] 73 (0, 0)) (by (with_reducible repeat (first|apply kN|apply kD|apply kA)); exact BK293.out)) : gb293 ≠ gb294)); have n6_ := aM ((by rw [hg]; exact Nat.ne_of_gt (blk_lt (g := gb293) (o := .cells #[.int .u64 a0_0, .int .u64 a0_1] 73 (0, 0)) (by (with_reducible repeat (first|apply kN|apply kD|apply kA)); exact BK293.out)) : gb294 ≠ gb293)); clear BK293; clear HB; have BK293 := n0_; have HB := n1_; have BK294 := n2_; have GW294 := n3_; have GE294 := n4_; have NB293_294 := n5_; have NB294_293 := n6_; clear n0_ n1_ n2_ n3_ n4_ n5_ n6_; clear hb hbox hg; have hnb4 := NB293_294.out; have hnc4 := NB294_293.out; have hcz5_0 : w3.cell? ⟨gb293, 0, none⟩ = some (.int .u64 a0_0) := (blk_cell BK293.out 0).trans rfl; have hcz5_1 : w3.cell? ⟨gb293, 1, none⟩ = some (.int .u64 a0_1) := (blk_cell BK293.out 1).trans rfl; have hfz5_0 := blk_frozen BK293.out 0; have hfz5_1 := blk_frozen BK293.out 1; have hcz6_0 : w3.cell? ⟨gb294, 0, none⟩ = some (.int .u64 0) := (blk_cell BK294.out 0).trans rfl; have hcz6_1 : w3.cell? ⟨gb294, 1, none⟩ = some (.int .u64 0) := (blk_cell BK294.out 1).trans rfl; have hfz6_0 := blk_frozen BK294.out 0; have hfz6_1 := blk_frozen BK294.out 1))
  refine bodyPost_ret (results_cell_row rfl _ _ gb294 73 #[.int .u64 (Go.bits .or .u64 (IntKind.u64.wrap (a0_0 * 2)) (a0_1 / 9223372036854775808)), .int .u64 (IntKind.u64.wrap (a0_1 * 2))] (0, 0) _ rfl (by (with_reducible repeat (first|apply kN|apply kD|apply kA)); refine blk_put (cs := #[.int .u64 (Go.bits .or .u64 (IntKind.u64.wrap (a0_0 * 2)) (a0_1 / 9223372036854775808)), .int .u64 0]) ?_ 1 _ rfl; (with_reducible repeat (first|apply kN|apply kD|apply kA)); refine blk_put (cs := #[.int .u64 0, .int .u64 0]) ?_ 0 _ rfl; (with_reducible repeat (first|apply kN|apply kD|apply kA)); exact BK294.out) Try.underlying73 rfl (by kernel_rfl)) rfl ?_
  exact ⟨by first | rfl | (simp [errW_none, errW_some] <;> rfl) | (simp [*, errW_none, errW_some] <;> rfl), by repeat (first | (with_reducible first|exact HB.out|apply bA|apply bN|apply bD|refine bS ?_ GE293.out|refine bS ?_ GE294.out)|exact HB.out)⟩

/-! ### athanorref01_plus: function 59 -/
def athanorref01_plus.f (a0_0 : Int) (a0_1 : Int) (a1_0 : Int) (a1_1 : Int) : Option (Int × Int) := if (IntKind.u64.wrap (a0_1 + a1_1)) < a0_1 then (some (IntKind.u64.wrap ((IntKind.u64.wrap (a0_0 + a1_0)) + 1), IntKind.u64.wrap (a0_1 + a1_1))) else (some (IntKind.u64.wrap (a0_0 + a1_0), IntKind.u64.wrap (a0_1 + a1_1)))
set_option maxHeartbeats 8000000 in
set_option maxRecDepth 100000 in
theorem athanorref01_plus.calls (a0_0 : Int) (a0_1 : Int) (a1_0 : Int) (a1_1 : Int) (r1 : Int) (r2 : Int) (w : World) (h : athanorref01_plus.f a0_0 a0_1 a1_0 a1_1 = some (r1, r2)) :
  Calls Try.prog 59 #[.agg #[.int .u64 a0_0, .int .u64 a0_1], .agg #[.int .u64 a1_0, .int .u64 a1_1]] w fun e w' => e = .returned (.agg #[.int .u64 r1, .int .u64 r2]) ∧ Below w.heap.size w w' := by
 have hu73 := Try.underlying73
 have HB := aM (Below.refl w.heap.size w)
 have H : (if (IntKind.u64.wrap (a0_1 + a1_1)) < a0_1 then (some (IntKind.u64.wrap ((IntKind.u64.wrap (a0_0 + a1_0)) + 1), IntKind.u64.wrap (a0_1 + a1_1))) else (some (IntKind.u64.wrap (a0_0 + a1_0), IntKind.u64.wrap (a0_1 + a1_1)))) = some (r1, r2) := h
 clear h
 by_cases c3 : (IntKind.u64.wrap (a0_1 + a1_1)) < a0_1
 ·rw [if_pos c3] at H
  have c3b0 : decide ((IntKind.u64.wrap (a0_1 + a1_1)) < a0_1) = true := decide_eq_true c3
  clear c3
  as_aux_lemma =>
   simp only [Option.some.injEq, Prod.mk.injEq] at H
   obtain ⟨rfl, rfl⟩ := H
   go_enter Try.func59, Try.ntmps59
   go_wp2_with (first | ((with_reducible refine gate_dst (N := 2) rfl ?_); refine box_event ?hg (N := 2) ?hd (cs := #[.int .u64 a0_0, .int .u64 a0_1]) (t := 73) ?hr ?_; (case hd => rfl); (case hg => rfl); (case hr => first | (go_simp; done) | (go_simp; rfl)); intro gb295 hg w4 hbox hb; have n0_ := aM (below_step (by repeat (first | (with_reducible first|exact HB.out|apply bA|apply bN|apply bD)|exact HB.out)) hb); have n1_ := aM (hbox); have n2_ := aM ((by rw [hg]; exact (below_size (by repeat (first | (with_reducible first|exact HB.out|apply bA|apply bN|apply bD)|exact HB.out))) : w.heap.size ≤ gb295)); have n3_ := aM ((by rw [hg]; exact (below_size (by repeat (first | (with_reducible first|exact HB.out|apply bA|apply bN|apply bD)|exact HB.out))) : w.heap.size ≤ gb295)); clear HB; have HB := n0_; have BK295 := n1_; have GW295 := n2_; have GE295 := n3_; clear n0_ n1_ n2_ n3_; clear hb hbox hg) | ((with_reducible refine gate_dst (N := 3) rfl ?_); refine box_event ?hg (N := 3) ?hd (cs := #[.int .u64 a1_0, .int .u64 a1_1]) (t := 73) ?hr ?_; (case hd => rfl); (case hg => rfl); (case hr => first | (go_simp; done) | (go_simp; rfl)); intro gb296 hg w5 hbox hb; have n0_ := aM (blk_below (g := gb295) (o := .cells #[.int .u64 a0_0, .int .u64 a0_1] 73 (0, 0)) (by (with_reducible repeat (first|apply kN|apply kD|apply kA)); exact BK295.out) hb); have n1_ := aM (below_step (by repeat (first | (with_reducible first|exact HB.out|apply bA|apply bN|apply bD|refine bS ?_ GE295.out)|exact HB.out)) hb); have n2_ := aM (hbox); have n3_ := aM ((by rw [hg]; exact (below_size (by repeat (first | (with_reducible first|exact HB.out|apply bA|apply bN|apply bD|refine bS ?_ GE295.out)|exact HB.out))) : w.heap.size ≤ gb296)); have n4_ := aM ((by rw [hg]; exact (below_size (by repeat (first | (with_reducible first|exact HB.out|apply bA|apply bN|apply bD|refine bS ?_ GE295.out)|exact HB.out))) : w.heap.size ≤ gb296)); have n5_ := aM ((by rw [hg]; exact Nat.ne_of_lt (blk_lt (g := gb295) (o := .cells #[.int .u64 a0_0, .int .u64 a0_1] 73 (0, 0)) (by (with_reducible repeat (first|apply kN|apply kD|apply kA)); exact BK295.out)) : gb295 ≠ gb296)); have n6_ := aM ((by rw [hg]; exact Nat.ne_of_gt (blk_lt (g := gb295) (o := .cells #[.int .u64 a0_0, .int .u64 a0_1] 73 (0, 0)) (by (with_reducible repeat (first|apply kN|apply kD|apply kA)); exact BK295.out)) : gb296 ≠ gb295)); clear BK295; clear HB; have BK295 := n0_; have HB := n1_; have BK296 := n2_; have GW296 := n3_; have GE296 := n4_; have NB295_296 := n5_; have NB296_295 := n6_; clear n0_ n1_ n2_ n3_ n4_ n5_ n6_; clear hb hbox hg) | ((with_reducible refine gate_dst (N := 4) rfl ?_); refine box_event ?hg (N := 4) ?hd (cs := #[.int .u64 0, .int .u64 0]) (t := 73) ?hr ?_; (case hd => rfl); (case hg => rfl); (case hr => first | (go_simp; done) | (go_simp; rfl)); intro gb297 hg w6 hbox hb; have n0_ := aM (blk_below (g := gb295) (o := .cells #[.int .u64 a0_0, .int .u64 a0_1] 73 (0, 0)) (by (with_reducible repeat (first|apply kN|apply kD|apply kA)); exact BK295.out) hb); have n1_ := aM (blk_below (g := gb296) (o := .cells #[.int .u64 a1_0, .int .u64 a1_1] 73 (0, 0)) (by (with_reducible repeat (first|apply kN|apply kD|apply kA)); exact BK296.out) hb); have n2_ := aM (below_step (by repeat (first | (with_reducible first|exact HB.out|apply bA|apply bN|apply bD|refine bS ?_ GE295.out|refine bS ?_ GE296.out)|exact HB.out)) hb); have n3_ := aM (hbox); have n4_ := aM ((by rw [hg]; exact (below_size (by repeat (first | (with_reducible first|exact HB.out|apply bA|apply bN|apply bD|refine bS ?_ GE295.out|refine bS ?_ GE296.out)|exact HB.out))) : w.heap.size ≤ gb297)); have n5_ := aM ((by rw [hg]; exact (below_size (by repeat (first | (with_reducible first|exact HB.out|apply bA|apply bN|apply bD|refine bS ?_ GE295.out|refine bS ?_ GE296.out)|exact HB.out))) : w.heap.size ≤ gb297)); have n6_ := aM ((by rw [hg]; exact Nat.ne_of_lt (blk_lt (g := gb295) (o := .cells #[.int .u64 a0_0, .int .u64 a0_1] 73 (0, 0)) (by (with_reducible repeat (first|apply kN|apply kD|apply kA)); exact BK295.out)) : gb295 ≠ gb297)); have n7_ := aM ((by rw [hg]; exact Nat.ne_of_gt (blk_lt (g := gb295) (o := .cells #[.int .u64 a0_0, .int .u64 a0_1] 73 (0, 0)) (by (with_reducible repeat (first|apply kN|apply kD|apply kA)); exact BK295.out)) : gb297 ≠ gb295)); have n8_ := aM ((by rw [hg]; exact Nat.ne_of_lt (blk_lt (g := gb296) (o := .cells #[.int .u64 a1_0, .int .u64 a1_1] 73 (0, 0)) (by (with_reducible repeat (first|apply kN|apply kD|apply kA)); exact BK296.out)) : gb296 ≠ gb297)); have n9_ := aM ((by rw [hg]; exact Nat.ne_of_gt (blk_lt (g := gb296) (o := .cells #[.int .u64 a1_0, .int .u64 a1_1] 73 (0, 0)) (by (with_reducible repeat (first|apply kN|apply kD|apply kA)); exact BK296.out)) : gb297 ≠ gb296)); clear BK295; clear BK296; clear HB; have BK295 := n0_; have BK296 := n1_; have HB := n2_; have BK297 := n3_; have GW297 := n4_; have GE297 := n5_; have NB295_297 := n6_; have NB297_295 := n7_; have NB296_297 := n8_; have NB297_296 := n9_; clear n0_ n1_ n2_ n3_ n4_ n5_ n6_ n7_ n8_ n9_; clear hb hbox hg; have hnb7 := NB295_296.out; have hnc7 := NB296_295.out; have hnb8 := NB295_297.out; have hnc8 := NB297_295.out; have hcz9_0 : w6.cell? ⟨gb295, 0, none⟩ = some (.int .u64 a0_0) := (blk_cell BK295.out 0).trans rfl; have hcz9_1 : w6.cell? ⟨gb295, 1, none⟩ = some (.int .u64 a0_1) := (blk_cell BK295.out 1).trans rfl; have hfz9_0 := blk_frozen BK295.out 0; have hfz9_1 := blk_frozen BK295.out 1; have hnb10 := NB296_297.out; have hnc10 := NB297_296.out; have hcz11_0 : w6.cell? ⟨gb296, 0, none⟩ = some (.int .u64 a1_0) := (blk_cell BK296.out 0).trans rfl; have hcz11_1 : w6.cell? ⟨gb296, 1, none⟩ = some (.int .u64 a1_1) := (blk_cell BK296.out 1).trans rfl; have hfz11_0 := blk_frozen BK296.out 0; have hfz11_1 := blk_frozen BK296.out 1) | ((with_reducible refine gate_dst (N := 5) rfl ?_); refine box_event ?hg (N := 5) ?hd (cs := #[.int .u64 0, .int .u64 0]) (t := 73) ?hr ?_; (case hd => rfl); (case hg => rfl); (case hr => first | (go_simp; done) | (go_simp; rfl)); intro gb298 hg w12 hbox hb; have n0_ := aM (blk_below (g := gb295) (o := .cells #[.int .u64 a0_0, .int .u64 a0_1] 73 (0, 0)) (by (with_reducible repeat (first|apply kN|apply kD|apply kA)); exact BK295.out) hb); have n1_ := aM (blk_below (g := gb296) (o := .cells #[.int .u64 a1_0, .int .u64 a1_1] 73 (0, 0)) (by (with_reducible repeat (first|apply kN|apply kD|apply kA)); exact BK296.out) hb); have n2_ := aM (blk_below (g := gb297) (o := .cells #[.int .u64 0, .int .u64 0] 73 (0, 0)) (by (with_reducible repeat (first|apply kN|apply kD|apply kA)); exact BK297.out) hb); have n3_ := aM (below_step (by repeat (first | (with_reducible first|exact HB.out|apply bA|apply bN|apply bD|refine bS ?_ GE295.out|refine bS ?_ GE296.out|refine bS ?_ GE297.out)|exact HB.out)) hb); have n4_ := aM (hbox); have n5_ := aM ((by rw [hg]; exact (below_size (by repeat (first | (with_reducible first|exact HB.out|apply bA|apply bN|apply bD|refine bS ?_ GE295.out|refine bS ?_ GE296.out|refine bS ?_ GE297.out)|exact HB.out))) : w.heap.size ≤ gb298)); have n6_ := aM ((by rw [hg]; exact (below_size (by repeat (first | (with_reducible first|exact HB.out|apply bA|apply bN|apply bD|refine bS ?_ GE295.out|refine bS ?_ GE296.out|refine bS ?_ GE297.out)|exact HB.out))) : w.heap.size ≤ gb298)); have n7_ := aM ((by rw [hg]; exact Nat.ne_of_lt (blk_lt (g := gb295) (o := .cells #[.int .u64 a0_0, .int .u64 a0_1] 73 (0, 0)) (by (with_reducible repeat (first|apply kN|apply kD|apply kA)); exact BK295.out)) : gb295 ≠ gb298)); have n8_ := aM ((by rw [hg]; exact Nat.ne_of_gt (blk_lt (g := gb295) (o := .cells #[.int .u64 a0_0, .int .u64 a0_1] 73 (0, 0)) (by (with_reducible repeat (first|apply kN|apply kD|apply kA)); exact BK295.out)) : gb298 ≠ gb295)); have n9_ := aM ((by rw [hg]; exact Nat.ne_of_lt (blk_lt (g := gb296) (o := .cells #[.int .u64 a1_0, .int .u64 a1_1] 73 (0, 0)) (by (with_reducible repeat (first|apply kN|apply kD|apply kA)); exact BK296.out)) : gb296 ≠ gb298)); have n10_ := aM ((by rw [hg]; exact Nat.ne_of_gt (blk_lt (g := gb296) (o := .cells #[.int .u64 a1_0, .int .u64 a1_1] 73 (0, 0)) (by (with_reducible repeat (first|apply kN|apply kD|apply kA)); exact BK296.out)) : gb298 ≠ gb296)); have n11_ := aM ((by rw [hg]; exact Nat.ne_of_lt (blk_lt (g := gb297) (o := .cells #[.int .u64 0, .int .u64 0] 73 (0, 0)) (by (with_reducible repeat (first|apply kN|apply kD|apply kA)); exact BK297.out)) : gb297 ≠ gb298)); have n12_ := aM ((by rw [hg]; exact Nat.ne_of_gt (blk_lt (g := gb297) (o := .cells #[.int .u64 0, .int .u64 0] 73 (0, 0)) (by (with_reducible repeat (first|apply kN|apply kD|apply kA)); exact BK297.out)) : gb298 ≠ gb297)); clear BK295; clear BK296; clear BK297; clear HB; have BK295 := n0_; have BK296 := n1_; have BK297 := n2_; have HB := n3_; have BK298 := n4_; have GW298 := n5_; have GE298 := n6_; have NB295_298 := n7_; have NB298_295 := n8_; have NB296_298 := n9_; have NB298_296 := n10_; have NB297_298 := n11_; have NB298_297 := n12_; clear n0_ n1_ n2_ n3_ n4_ n5_ n6_ n7_ n8_ n9_ n10_ n11_ n12_; clear hb hbox hg; have hnb13 := NB298_295.out; have hnc13 := NB295_298.out; have hnb14 := NB298_296.out; have hnc14 := NB296_298.out; have hnb15 := NB298_297.out; have hnc15 := NB297_298.out; have hcz16_0 : w12.cell? ⟨gb298, 0, none⟩ = some (.int .u64 0) := (blk_cell BK298.out 0).trans rfl; have hcz16_1 : w12.cell? ⟨gb298, 1, none⟩ = some (.int .u64 0) := (blk_cell BK298.out 1).trans rfl; have hfz16_0 := blk_frozen BK298.out 0; have hfz16_1 := blk_frozen BK298.out 1; have hcz17_0 : w12.cell? ⟨gb295, 0, none⟩ = some (.int .u64 a0_0) := (blk_cell BK295.out 0).trans rfl; have hcz17_1 : w12.cell? ⟨gb295, 1, none⟩ = some (.int .u64 a0_1) := (blk_cell BK295.out 1).trans rfl; have hfz17_0 := blk_frozen BK295.out 0; have hfz17_1 := blk_frozen BK295.out 1; have hcz18_0 : w12.cell? ⟨gb297, 0, none⟩ = some (.int .u64 0) := (blk_cell BK297.out 0).trans rfl; have hcz18_1 : w12.cell? ⟨gb297, 1, none⟩ = some (.int .u64 0) := (blk_cell BK297.out 1).trans rfl; have hfz18_0 := blk_frozen BK297.out 0; have hfz18_1 := blk_frozen BK297.out 1))
   refine bodyPost_ret (results_cell_row rfl _ _ gb297 73 #[.int .u64 (IntKind.u64.wrap ((IntKind.u64.wrap (a0_0 + a1_0)) + 1)), .int .u64 (IntKind.u64.wrap (a0_1 + a1_1))] (0, 0) _ rfl (by (with_reducible repeat (first|apply kN|apply kD|apply kA)); refine blk_put (cs := #[.int .u64 (IntKind.u64.wrap ((IntKind.u64.wrap (a0_0 + a1_0)) + 1)), .int .u64 0]) ?_ 1 _ rfl; (with_reducible repeat (first|apply kN|apply kD|apply kA)); refine blk_put (cs := #[.int .u64 0, .int .u64 0]) ?_ 0 _ rfl; (with_reducible repeat (first|apply kN|apply kD|apply kA)); refine blk_far ?_ NB297_298.out _; (with_reducible repeat (first|apply kN|apply kD|apply kA)); refine blk_far ?_ NB297_298.out _; (with_reducible repeat (first|apply kN|apply kD|apply kA)); refine blk_far ?_ NB297_298.out _; (with_reducible repeat (first|apply kN|apply kD|apply kA)); exact BK297.out) Try.underlying73 rfl (by kernel_rfl)) rfl ?_
   exact ⟨by first | rfl | (simp [errW_none, errW_some] <;> rfl) | (simp [*, errW_none, errW_some] <;> rfl), by repeat (first | (with_reducible first|exact HB.out|apply bA|apply bN|apply bD|refine bS ?_ GE295.out|refine bS ?_ GE296.out|refine bS ?_ GE297.out|refine bS ?_ GE298.out)|exact HB.out)⟩
 ·rw [if_neg c3] at H
  have c3b0 : decide ((IntKind.u64.wrap (a0_1 + a1_1)) < a0_1) = false := decide_eq_false c3
  clear c3
  as_aux_lemma =>
   simp only [Option.some.injEq, Prod.mk.injEq] at H
   obtain ⟨rfl, rfl⟩ := H
   go_enter Try.func59, Try.ntmps59
   go_wp2_with (first | ((with_reducible refine gate_dst (N := 2) rfl ?_); refine box_event ?hg (N := 2) ?hd (cs := #[.int .u64 a0_0, .int .u64 a0_1]) (t := 73) ?hr ?_; (case hd => rfl); (case hg => rfl); (case hr => first | (go_simp; done) | (go_simp; rfl)); intro gb295 hg w19 hbox hb; have n0_ := aM (below_step (by repeat (first | (with_reducible first|exact HB.out|apply bA|apply bN|apply bD)|exact HB.out)) hb); have n1_ := aM (hbox); have n2_ := aM ((by rw [hg]; exact (below_size (by repeat (first | (with_reducible first|exact HB.out|apply bA|apply bN|apply bD)|exact HB.out))) : w.heap.size ≤ gb295)); have n3_ := aM ((by rw [hg]; exact (below_size (by repeat (first | (with_reducible first|exact HB.out|apply bA|apply bN|apply bD)|exact HB.out))) : w.heap.size ≤ gb295)); clear HB; have HB := n0_; have BK295 := n1_; have GW295 := n2_; have GE295 := n3_; clear n0_ n1_ n2_ n3_; clear hb hbox hg) | ((with_reducible refine gate_dst (N := 3) rfl ?_); refine box_event ?hg (N := 3) ?hd (cs := #[.int .u64 a1_0, .int .u64 a1_1]) (t := 73) ?hr ?_; (case hd => rfl); (case hg => rfl); (case hr => first | (go_simp; done) | (go_simp; rfl)); intro gb296 hg w20 hbox hb; have n0_ := aM (blk_below (g := gb295) (o := .cells #[.int .u64 a0_0, .int .u64 a0_1] 73 (0, 0)) (by (with_reducible repeat (first|apply kN|apply kD|apply kA)); exact BK295.out) hb); have n1_ := aM (below_step (by repeat (first | (with_reducible first|exact HB.out|apply bA|apply bN|apply bD|refine bS ?_ GE295.out)|exact HB.out)) hb); have n2_ := aM (hbox); have n3_ := aM ((by rw [hg]; exact (below_size (by repeat (first | (with_reducible first|exact HB.out|apply bA|apply bN|apply bD|refine bS ?_ GE295.out)|exact HB.out))) : w.heap.size ≤ gb296)); have n4_ := aM ((by rw [hg]; exact (below_size (by repeat (first | (with_reducible first|exact HB.out|apply bA|apply bN|apply bD|refine bS ?_ GE295.out)|exact HB.out))) : w.heap.size ≤ gb296)); have n5_ := aM ((by rw [hg]; exact Nat.ne_of_lt (blk_lt (g := gb295) (o := .cells #[.int .u64 a0_0, .int .u64 a0_1] 73 (0, 0)) (by (with_reducible repeat (first|apply kN|apply kD|apply kA)); exact BK295.out)) : gb295 ≠ gb296)); have n6_ := aM ((by rw [hg]; exact Nat.ne_of_gt (blk_lt (g := gb295) (o := .cells #[.int .u64 a0_0, .int .u64 a0_1] 73 (0, 0)) (by (with_reducible repeat (first|apply kN|apply kD|apply kA)); exact BK295.out)) : gb296 ≠ gb295)); clear BK295; clear HB; have BK295 := n0_; have HB := n1_; have BK296 := n2_; have GW296 := n3_; have GE296 := n4_; have NB295_296 := n5_; have NB296_295 := n6_; clear n0_ n1_ n2_ n3_ n4_ n5_ n6_; clear hb hbox hg) | ((with_reducible refine gate_dst (N := 4) rfl ?_); refine box_event ?hg (N := 4) ?hd (cs := #[.int .u64 0, .int .u64 0]) (t := 73) ?hr ?_; (case hd => rfl); (case hg => rfl); (case hr => first | (go_simp; done) | (go_simp; rfl)); intro gb297 hg w21 hbox hb; have n0_ := aM (blk_below (g := gb295) (o := .cells #[.int .u64 a0_0, .int .u64 a0_1] 73 (0, 0)) (by (with_reducible repeat (first|apply kN|apply kD|apply kA)); exact BK295.out) hb); have n1_ := aM (blk_below (g := gb296) (o := .cells #[.int .u64 a1_0, .int .u64 a1_1] 73 (0, 0)) (by (with_reducible repeat (first|apply kN|apply kD|apply kA)); exact BK296.out) hb); have n2_ := aM (below_step (by repeat (first | (with_reducible first|exact HB.out|apply bA|apply bN|apply bD|refine bS ?_ GE295.out|refine bS ?_ GE296.out)|exact HB.out)) hb); have n3_ := aM (hbox); have n4_ := aM ((by rw [hg]; exact (below_size (by repeat (first | (with_reducible first|exact HB.out|apply bA|apply bN|apply bD|refine bS ?_ GE295.out|refine bS ?_ GE296.out)|exact HB.out))) : w.heap.size ≤ gb297)); have n5_ := aM ((by rw [hg]; exact (below_size (by repeat (first | (with_reducible first|exact HB.out|apply bA|apply bN|apply bD|refine bS ?_ GE295.out|refine bS ?_ GE296.out)|exact HB.out))) : w.heap.size ≤ gb297)); have n6_ := aM ((by rw [hg]; exact Nat.ne_of_lt (blk_lt (g := gb295) (o := .cells #[.int .u64 a0_0, .int .u64 a0_1] 73 (0, 0)) (by (with_reducible repeat (first|apply kN|apply kD|apply kA)); exact BK295.out)) : gb295 ≠ gb297)); have n7_ := aM ((by rw [hg]; exact Nat.ne_of_gt (blk_lt (g := gb295) (o := .cells #[.int .u64 a0_0, .int .u64 a0_1] 73 (0, 0)) (by (with_reducible repeat (first|apply kN|apply kD|apply kA)); exact BK295.out)) : gb297 ≠ gb295)); have n8_ := aM ((by rw [hg]; exact Nat.ne_of_lt (blk_lt (g := gb296) (o := .cells #[.int .u64 a1_0, .int .u64 a1_1] 73 (0, 0)) (by (with_reducible repeat (first|apply kN|apply kD|apply kA)); exact BK296.out)) : gb296 ≠ gb297)); have n9_ := aM ((by rw [hg]; exact Nat.ne_of_gt (blk_lt (g := gb296) (o := .cells #[.int .u64 a1_0, .int .u64 a1_1] 73 (0, 0)) (by (with_reducible repeat (first|apply kN|apply kD|apply kA)); exact BK296.out)) : gb297 ≠ gb296)); clear BK295; clear BK296; clear HB; have BK295 := n0_; have BK296 := n1_; have HB := n2_; have BK297 := n3_; have GW297 := n4_; have GE297 := n5_; have NB295_297 := n6_; have NB297_295 := n7_; have NB296_297 := n8_; have NB297_296 := n9_; clear n0_ n1_ n2_ n3_ n4_ n5_ n6_ n7_ n8_ n9_; clear hb hbox hg; have hnb22 := NB295_296.out; have hnc22 := NB296_295.out; have hnb23 := NB295_297.out; have hnc23 := NB297_295.out; have hcz24_0 : w21.cell? ⟨gb295, 0, none⟩ = some (.int .u64 a0_0) := (blk_cell BK295.out 0).trans rfl; have hcz24_1 : w21.cell? ⟨gb295, 1, none⟩ = some (.int .u64 a0_1) := (blk_cell BK295.out 1).trans rfl; have hfz24_0 := blk_frozen BK295.out 0; have hfz24_1 := blk_frozen BK295.out 1; have hnb25 := NB296_297.out; have hnc25 := NB297_296.out; have hcz26_0 : w21.cell? ⟨gb296, 0, none⟩ = some (.int .u64 a1_0) := (blk_cell BK296.out 0).trans rfl; have hcz26_1 : w21.cell? ⟨gb296, 1, none⟩ = some (.int .u64 a1_1) := (blk_cell BK296.out 1).trans rfl; have hfz26_0 := blk_frozen BK296.out 0; have hfz26_1 := blk_frozen BK296.out 1) | ((with_reducible refine gate_dst (N := 5) rfl ?_); refine box_event ?hg (N := 5) ?hd (cs := #[.int .u64 0, .int .u64 0]) (t := 73) ?hr ?_; (case hd => rfl); (case hg => rfl); (case hr => first | (go_simp; done) | (go_simp; rfl)); intro gb298 hg w27 hbox hb; have n0_ := aM (blk_below (g := gb295) (o := .cells #[.int .u64 a0_0, .int .u64 a0_1] 73 (0, 0)) (by (with_reducible repeat (first|apply kN|apply kD|apply kA)); exact BK295.out) hb); have n1_ := aM (blk_below (g := gb296) (o := .cells #[.int .u64 a1_0, .int .u64 a1_1] 73 (0, 0)) (by (with_reducible repeat (first|apply kN|apply kD|apply kA)); exact BK296.out) hb); have n2_ := aM (blk_below (g := gb297) (o := .cells #[.int .u64 0, .int .u64 0] 73 (0, 0)) (by (with_reducible repeat (first|apply kN|apply kD|apply kA)); exact BK297.out) hb); have n3_ := aM (below_step (by repeat (first | (with_reducible first|exact HB.out|apply bA|apply bN|apply bD|refine bS ?_ GE295.out|refine bS ?_ GE296.out|refine bS ?_ GE297.out)|exact HB.out)) hb); have n4_ := aM (hbox); have n5_ := aM ((by rw [hg]; exact (below_size (by repeat (first | (with_reducible first|exact HB.out|apply bA|apply bN|apply bD|refine bS ?_ GE295.out|refine bS ?_ GE296.out|refine bS ?_ GE297.out)|exact HB.out))) : w.heap.size ≤ gb298)); have n6_ := aM ((by rw [hg]; exact (below_size (by repeat (first | (with_reducible first|exact HB.out|apply bA|apply bN|apply bD|refine bS ?_ GE295.out|refine bS ?_ GE296.out|refine bS ?_ GE297.out)|exact HB.out))) : w.heap.size ≤ gb298)); have n7_ := aM ((by rw [hg]; exact Nat.ne_of_lt (blk_lt (g := gb295) (o := .cells #[.int .u64 a0_0, .int .u64 a0_1] 73 (0, 0)) (by (with_reducible repeat (first|apply kN|apply kD|apply kA)); exact BK295.out)) : gb295 ≠ gb298)); have n8_ := aM ((by rw [hg]; exact Nat.ne_of_gt (blk_lt (g := gb295) (o := .cells #[.int .u64 a0_0, .int .u64 a0_1] 73 (0, 0)) (by (with_reducible repeat (first|apply kN|apply kD|apply kA)); exact BK295.out)) : gb298 ≠ gb295)); have n9_ := aM ((by rw [hg]; exact Nat.ne_of_lt (blk_lt (g := gb296) (o := .cells #[.int .u64 a1_0, .int .u64 a1_1] 73 (0, 0)) (by (with_reducible repeat (first|apply kN|apply kD|apply kA)); exact BK296.out)) : gb296 ≠ gb298)); have n10_ := aM ((by rw [hg]; exact Nat.ne_of_gt (blk_lt (g := gb296) (o := .cells #[.int .u64 a1_0, .int .u64 a1_1] 73 (0, 0)) (by (with_reducible repeat (first|apply kN|apply kD|apply kA)); exact BK296.out)) : gb298 ≠ gb296)); have n11_ := aM ((by rw [hg]; exact Nat.ne_of_lt (blk_lt (g := gb297) (o := .cells #[.int .u64 0, .int .u64 0] 73 (0, 0)) (by (with_reducible repeat (first|apply kN|apply kD|apply kA)); exact BK297.out)) : gb297 ≠ gb298)); have n12_ := aM ((by rw [hg]; exact Nat.ne_of_gt (blk_lt (g := gb297) (o := .cells #[.int .u64 0, .int .u64 0] 73 (0, 0)) (by (with_reducible repeat (first|apply kN|apply kD|apply kA)); exact BK297.out)) : gb298 ≠ gb297)); clear BK295; clear BK296; clear BK297; clear HB; have BK295 := n0_; have BK296 := n1_; have BK297 := n2_; have HB := n3_; have BK298 := n4_; have GW298 := n5_; have GE298 := n6_; have NB295_298 := n7_; have NB298_295 := n8_; have NB296_298 := n9_; have NB298_296 := n10_; have NB297_298 := n11_; have NB298_297 := n12_; clear n0_ n1_ n2_ n3_ n4_ n5_ n6_ n7_ n8_ n9_ n10_ n11_ n12_; clear hb hbox hg; have hnb28 := NB298_295.out; have hnc28 := NB295_298.out; have hnb29 := NB298_296.out; have hnc29 := NB296_298.out; have hnb30 := NB298_297.out; have hnc30 := NB297_298.out; have hcz31_0 : w27.cell? ⟨gb298, 0, none⟩ = some (.int .u64 0) := (blk_cell BK298.out 0).trans rfl; have hcz31_1 : w27.cell? ⟨gb298, 1, none⟩ = some (.int .u64 0) := (blk_cell BK298.out 1).trans rfl; have hfz31_0 := blk_frozen BK298.out 0; have hfz31_1 := blk_frozen BK298.out 1; have hcz32_0 : w27.cell? ⟨gb295, 0, none⟩ = some (.int .u64 a0_0) := (blk_cell BK295.out 0).trans rfl; have hcz32_1 : w27.cell? ⟨gb295, 1, none⟩ = some (.int .u64 a0_1) := (blk_cell BK295.out 1).trans rfl; have hfz32_0 := blk_frozen BK295.out 0; have hfz32_1 := blk_frozen BK295.out 1; have hcz33_0 : w27.cell? ⟨gb297, 0, none⟩ = some (.int .u64 0) := (blk_cell BK297.out 0).trans rfl; have hcz33_1 : w27.cell? ⟨gb297, 1, none⟩ = some (.int .u64 0) := (blk_cell BK297.out 1).trans rfl; have hfz33_0 := blk_frozen BK297.out 0; have hfz33_1 := blk_frozen BK297.out 1))
   refine bodyPost_ret (results_cell_row rfl _ _ gb297 73 #[.int .u64 (IntKind.u64.wrap (a0_0 + a1_0)), .int .u64 (IntKind.u64.wrap (a0_1 + a1_1))] (0, 0) _ rfl (by (with_reducible repeat (first|apply kN|apply kD|apply kA)); refine blk_put (cs := #[.int .u64 (IntKind.u64.wrap (a0_0 + a1_0)), .int .u64 0]) ?_ 1 _ rfl; (with_reducible repeat (first|apply kN|apply kD|apply kA)); refine blk_put (cs := #[.int .u64 0, .int .u64 0]) ?_ 0 _ rfl; (with_reducible repeat (first|apply kN|apply kD|apply kA)); refine blk_far ?_ NB297_298.out _; (with_reducible repeat (first|apply kN|apply kD|apply kA)); refine blk_far ?_ NB297_298.out _; (with_reducible repeat (first|apply kN|apply kD|apply kA)); exact BK297.out) Try.underlying73 rfl (by kernel_rfl)) rfl ?_
   exact ⟨by first | rfl | (simp [errW_none, errW_some] <;> rfl) | (simp [*, errW_none, errW_some] <;> rfl), by repeat (first | (with_reducible first|exact HB.out|apply bA|apply bN|apply bD|refine bS ?_ GE295.out|refine bS ?_ GE296.out|refine bS ?_ GE297.out|refine bS ?_ GE298.out)|exact HB.out)⟩

/-! ### athanorref01_Product: function 47 -/
def athanorref01_Product.l0 : Nat → Int → Int → Int → Int → Int → Option (Int × Int)
 | 0, _, _, _, _, _ => none
 | k + 1, x0, x1, x6, x301000, x301001 => if x6 ≥ 0 then ((athanorref01_double.f x301000 x301001).bind fun bt301 => (if 0 ≤ (IntKind.u64.wrap (x6)) then (if (Go.bits .and .u64 (shr .u64 x1 (IntKind.u64.wrap (x6))) 1) = 1 then ((athanorref01_plus.f bt301.1 bt301.2 0 x0).bind fun bt303 => (athanorref01_Product.l0 k x0 x1 (wrap64 (x6 - 1)) bt303.1 bt303.2)) else (athanorref01_Product.l0 k x0 x1 (wrap64 (x6 - 1)) bt301.1 bt301.2)) else (none))) else (some (x301000, x301001))
def athanorref01_Product.f (k : Nat) (a0 : Int) (a1 : Int) : Option (Int × Int) := athanorref01_Product.l0 k a0 a1 63 0 0
theorem athanorref01_Product.mono_l : ∀ k, (∀ y0 y1 y2 y3 y4, LeO (athanorref01_Product.l0 k y0 y1 y2 y3 y4) (athanorref01_Product.l0 (k + 1) y0 y1 y2 y3 y4))
 | 0 => fun _ _ _ _ _ r h => by simp [athanorref01_Product.l0] at h
 | k + 1 => by
  have ih0 := athanorref01_Product.mono_l k
  ·intro y0 y1 y2 y3 y4
   unfold athanorref01_Product.l0
   repeat' first
   | (with_reducible exact ih0 _ _ _ _ _)
   | (with_reducible exact LeO.refl _)
   | (with_reducible exact LeO.none _)
   | (with_reducible refine LeO.ite ?_ ?_)
   | (with_reducible refine LeO.bind ?_ (fun _ => ?_))
   | exact ih0 _ _ _ _ _
   | exact LeO.none _
   | refine LeO.ite ?_ ?_
   | refine LeO.bind ?_ (fun _ => ?_)
theorem athanorref01_Product.mono : ∀ a0 a1 k, LeO (athanorref01_Product.f k a0 a1) (athanorref01_Product.f (k + 1) a0 a1) := by
 intro a0 a1 k
 have ih0 := athanorref01_Product.mono_l k
 unfold athanorref01_Product.f
 repeat' first
   | (with_reducible exact ih0 _ _ _ _ _)
   | (with_reducible exact LeO.refl _)
   | (with_reducible exact LeO.none _)
   | (with_reducible refine LeO.ite ?_ ?_)
   | (with_reducible refine LeO.bind ?_ (fun _ => ?_))
   | exact ih0 _ _ _ _ _
   | exact LeO.none _
   | refine LeO.ite ?_ ?_
   | refine LeO.bind ?_ (fun _ => ?_)
set_option maxHeartbeats 8000000 in
set_option maxRecDepth 100000 in
theorem athanorref01_Product.calls (k : Nat) (a0 : Int) (a1 : Int) (r1 : Int) (r2 : Int) (w : World) (h : athanorref01_Product.f k a0 a1 = some (r1, r2)) :
  Calls Try.prog 47 #[.int .u64 a0, .int .u64 a1] w fun e w' => e = .returned (.agg #[.int .u64 r1, .int .u64 r2]) ∧ Below w.heap.size w w' := by
 have hu73 := Try.underlying73
 have HB := aM (Below.refl w.heap.size w)
 have H : (athanorref01_Product.l0 k a0 a1 63 0 0) = some (r1, r2) := h
 clear h
 have H' := Aside0.mk H
 clear H
 go_enter Try.func47, Try.ntmps47
 go_wp2_with (first | ((with_reducible refine gate_dst (N := 4) rfl ?_); refine box_event ?hg (N := 4) ?hd (cs := #[.int .u64 0, .int .u64 0]) (t := 73) ?hr ?_; (case hd => rfl); (case hg => rfl); (case hr => first | (go_simp; done) | (go_simp; rfl)); intro gb299 hg w3 hbox hb; have n0_ := aM (below_step (by repeat (first | (with_reducible first|exact HB.out|apply bA|apply bN|apply bD)|exact HB.out)) hb); have n1_ := aM (hbox); have n2_ := aM ((by rw [hg]; exact (below_size (by repeat (first | (with_reducible first|exact HB.out|apply bA|apply bN|apply bD)|exact HB.out))) : w.heap.size ≤ gb299)); have n3_ := aM ((by rw [hg]; exact (below_size (by repeat (first | (with_reducible first|exact HB.out|apply bA|apply bN|apply bD)|exact HB.out))) : w.heap.size ≤ gb299)); clear HB; have HB := n0_; have BK299 := n1_; have GW299 := n2_; have GE299 := n3_; clear n0_ n1_ n2_ n3_; clear hb hbox hg) | ((with_reducible refine gate_dst (N := 5) rfl ?_); refine box_event ?hg (N := 5) ?hd (cs := #[.int .u64 0, .int .u64 0]) (t := 73) ?hr ?_; (case hd => rfl); (case hg => rfl); (case hr => first | (go_simp; done) | (go_simp; rfl)); intro gb300 hg w4 hbox hb; have n0_ := aM (blk_below (g := gb299) (o := .cells #[.int .u64 0, .int .u64 0] 73 (0, 0)) (by (with_reducible repeat (first|apply kN|apply kD|apply kA)); exact BK299.out) hb); have n1_ := aM (below_step (by repeat (first | (with_reducible first|exact HB.out|apply bA|apply bN|apply bD|refine bS ?_ GE299.out)|exact HB.out)) hb); have n2_ := aM (hbox); have n3_ := aM ((by rw [hg]; exact (below_size (by repeat (first | (with_reducible first|exact HB.out|apply bA|apply bN|apply bD|refine bS ?_ GE299.out)|exact HB.out))) : w.heap.size ≤ gb300)); have n4_ := aM ((by rw [hg]; exact (below_size (by repeat (first | (with_reducible first|exact HB.out|apply bA|apply bN|apply bD|refine bS ?_ GE299.out)|exact HB.out))) : w.heap.size ≤ gb300)); have n5_ := aM ((by rw [hg]; exact Nat.ne_of_lt (blk_lt (g := gb299) (o := .cells #[.int .u64 0, .int .u64 0] 73 (0, 0)) (by (with_reducible repeat (first|apply kN|apply kD|apply kA)); exact BK299.out)) : gb299 ≠ gb300)); have n6_ := aM ((by rw [hg]; exact Nat.ne_of_gt (blk_lt (g := gb299) (o := .cells #[.int .u64 0, .int .u64 0] 73 (0, 0)) (by (with_reducible repeat (first|apply kN|apply kD|apply kA)); exact BK299.out)) : gb300 ≠ gb299)); clear BK299; clear HB; have BK299 := n0_; have HB := n1_; have BK300 := n2_; have GW300 := n3_; have GE300 := n4_; have NB299_300 := n5_; have NB300_299 := n6_; clear n0_ n1_ n2_ n3_ n4_ n5_ n6_; clear hb hbox hg))
 go_loopg [6] k (fun kq v6 w' => ∃ (x6_1 : Int) (x301000_1 : Int) (x301001_1 : Int), v6 = .int .i64 x6_1 ∧ Aside0 (athanorref01_Product.l0 kq a0 a1 x6_1 x301000_1 x301001_1 = some (r1, r2)) ∧ Aside0 (kq ≤ k) ∧ Aside0 (w'.heap[gb299]? = some (.cells #[.int .u64 0, .int .u64 0] 73 (0, 0))) ∧ Aside0 (w'.heap[gb300]? = some (.cells #[.int .u64 x301000_1, .int .u64 x301001_1] 73 (0, 0))) ∧ Aside0 (Below w.heap.size w w'))
 case atStart => exact ⟨(63), (0), (0), (by first | rfl | (simp; done) | (simp [*]; done)), H', ⟨Nat.le_refl _⟩, ⟨by (with_reducible repeat (first|apply kN|apply kD|apply kA)); exact BK299.out⟩, ⟨by (with_reducible repeat (first|apply kN|apply kD|apply kA)); exact BK300.out⟩, ⟨by repeat (first | (with_reducible first|exact HB.out|apply bA|apply bN|apply bD|refine bS ?_ GE299.out|refine bS ?_ GE300.out)|exact HB.out)⟩⟩
 case round =>
  clear H'
  skip
  obtain ⟨x6_1, x301000_1, x301001_1, rfl, HA, HK1, BK299, BK300, HB⟩ := hrel
  cases gk with
  | zero => exact absurd HA.out (by simp [athanorref01_Product.l0])
  | succ k1 =>
   have H := HA.out
   clear HA
   simp only [athanorref01_Product.l0] at H
   by_cases c5 : x6_1 ≥ 0
   ·rw [if_pos c5] at H
    have c5b0 : decide (0 ≤ x6_1) = true := decide_eq_true c5
    clear c5
    replace H := Option.bind_eq_some_iff.mp H
    obtain ⟨⟨t301, t302⟩, A60, H⟩ := H
    replace H : (if 0 ≤ (IntKind.u64.wrap (x6_1)) then (if (Go.bits .and .u64 (shr .u64 a1 (IntKind.u64.wrap (x6_1))) 1) = 1 then ((athanorref01_plus.f t301 t302 0 a0).bind fun bt303 => (athanorref01_Product.l0 k1 a0 a1 (wrap64 (x6_1 - 1)) bt303.1 bt303.2)) else (athanorref01_Product.l0 k1 a0 a1 (wrap64 (x6_1 - 1)) t301 t302)) else (none)) = some (r1, r2) := H
    have A6 := Aside0.mk A60
    clear A60
    obtain ⟨ji7, hji7⟩ : ∃ j_ : Int, (IntKind.u64.wrap (x6_1)) = j_ := ⟨_, rfl⟩
    replace H : (if 0 ≤ (ji7) then (if (Go.bits .and .u64 (shr .u64 a1 (ji7)) 1) = 1 then ((athanorref01_plus.f t301 t302 0 a0).bind fun bt303 => (athanorref01_Product.l0 k1 a0 a1 (wrap64 (x6_1 - 1)) bt303.1 bt303.2)) else (athanorref01_Product.l0 k1 a0 a1 (wrap64 (x6_1 - 1)) t301 t302)) else (none)) = some (r1, r2) := by first | (rw [hji7] at H; exact H) | (simp only [hji7] at H ⊢; exact H)
    (try rw [hji7] at A6)
    by_cases c8 : 0 ≤ (ji7)
    ·rw [if_pos c8] at H
     have c8b0 := eq_true c8
     have c8b1 : decide (0 ≤ (ji7)) = true := decide_eq_true c8
     clear c8
     obtain ⟨ji9, hji9⟩ : ∃ j_ : Int, (shr .u64 a1 (ji7)) = j_ := ⟨_, rfl⟩
     replace H : (if (Go.bits .and .u64 (ji9) 1) = 1 then ((athanorref01_plus.f t301 t302 0 a0).bind fun bt303 => (athanorref01_Product.l0 k1 a0 a1 (wrap64 (x6_1 - 1)) bt303.1 bt303.2)) else (athanorref01_Product.l0 k1 a0 a1 (wrap64 (x6_1 - 1)) t301 t302)) = some (r1, r2) := by first | (rw [hji9] at H; exact H) | (simp only [hji9] at H ⊢; exact H)
     (try rw [hji9] at A6)
     have hji9_ : (a1 / 2 ^ min (ji7).toNat 64) = ji9 := hji9
     have hji9z : (ji7) ≤ 64 → (a1 / 2 ^ (ji7).toNat) = ji9 := shr_small hji9
     by_cases c10 : (Go.bits .and .u64 (ji9) 1) = 1
     ·rw [if_pos c10] at H
      have c10b0 : ((Go.bits .and .u64 (ji9) 1) == 1) = true := beq_iff_eq.mpr c10
      have c10b1 : ((Go.bits .and .u64 (ji9) 1) != 1) = false := bne_eq_false_iff_eq.mpr c10
      clear c10
      replace H := Option.bind_eq_some_iff.mp H
      obtain ⟨⟨t303, t304⟩, A110, H⟩ := H
      replace H : (athanorref01_Product.l0 k1 a0 a1 (wrap64 (x6_1 - 1)) t303 t304) = some (r1, r2) := H
      have A11 := Aside0.mk A110
      clear A110
      as_aux_lemma =>
       have H' := Aside0.mk H
       clear H
       have hnb12 := NB300_299.out
       have hnc12 := NB299_300.out
       have hcz13_0 : wr.cell? ⟨gb300, 0, none⟩ = some (.int .u64 x301000_1) := (blk_cell BK300.out 0).trans rfl
       have hcz13_1 : wr.cell? ⟨gb300, 1, none⟩ = some (.int .u64 x301001_1) := (blk_cell BK300.out 1).trans rfl
       have hfz13_0 := blk_frozen BK300.out 0
       have hfz13_1 := blk_frozen BK300.out 1
       go_wp2_with (first | ((with_reducible refine gate_callee (f := 58) rfl ?_); refine goesL_ (some 12) rfl rfl Try.func58 (by kernel_rfl) rfl #[.agg #[.int .u64 x301000_1, .int .u64 x301001_1]] rfl (by (try simp only [List.map_toArray, List.map_cons, List.map_nil]); first | done | rfl | (simp only [List.length_drop, List.length_take]; rfl)) ?_; (with_reducible refine (athanorref01_double.calls x301000_1 x301001_1 t301 t302 _ A6.out).mono ?_); rintro e w14 ⟨rfl, hb⟩; refine ⟨_, rfl, ?_⟩; have n0_ := aM (blk_below (g := gb299) (o := .cells #[.int .u64 0, .int .u64 0] 73 (0, 0)) (by (with_reducible repeat (first|apply kN|apply kD|apply kA)); exact BK299.out) hb); have n1_ := aM (blk_below (g := gb300) (o := .cells #[.int .u64 x301000_1, .int .u64 x301001_1] 73 (0, 0)) (by (with_reducible repeat (first|apply kN|apply kD|apply kA)); exact BK300.out) hb); have n2_ := aM (below_step (by repeat (first | (with_reducible first|exact HB.out|apply bA|apply bN|apply bD|refine bS ?_ GE299.out|refine bS ?_ GE300.out)|exact HB.out)) hb); clear BK299; clear BK300; clear HB; have BK299 := n0_; have BK300 := n1_; have HB := n2_; clear n0_ n1_ n2_; (try clear hb); have hcz15_0 : w14.cell? ⟨gb300, 0, none⟩ = some (.int .u64 x301000_1) := (blk_cell BK300.out 0).trans rfl; have hcz15_1 : w14.cell? ⟨gb300, 1, none⟩ = some (.int .u64 x301001_1) := (blk_cell BK300.out 1).trans rfl; have hfz15_0 := blk_frozen BK300.out 0; have hfz15_1 := blk_frozen BK300.out 1) | ((with_reducible refine gate_callee (f := 59) rfl ?_); refine goesL_ (some 22) rfl rfl Try.func59 (by kernel_rfl) rfl #[.agg #[.int .u64 t301, .int .u64 t302], .agg #[.int .u64 0, .int .u64 a0]] rfl (by (try simp only [List.map_toArray, List.map_cons, List.map_nil]); first | done | rfl | (simp only [List.length_drop, List.length_take]; rfl)) ?_; (with_reducible refine (athanorref01_plus.calls t301 t302 0 a0 t303 t304 _ A11.out).mono ?_); rintro e w16 ⟨rfl, hb⟩; refine ⟨_, rfl, ?_⟩; have n0_ := aM (blk_below (g := gb299) (o := .cells #[.int .u64 0, .int .u64 0] 73 (0, 0)) (by (with_reducible repeat (first|apply kN|apply kD|apply kA)); refine blk_far ?_ NB299_300.out _; (with_reducible repeat (first|apply kN|apply kD|apply kA)); refine blk_far ?_ NB299_300.out _; (with_reducible repeat (first|apply kN|apply kD|apply kA)); exact BK299.out) hb); have n1_ := aM (blk_below (g := gb300) (o := .cells #[.int .u64 t301, .int .u64 t302] 73 (0, 0)) (by (with_reducible repeat (first|apply kN|apply kD|apply kA)); refine blk_put (cs := #[.int .u64 t301, .int .u64 x301001_1]) ?_ 1 _ rfl; (with_reducible repeat (first|apply kN|apply kD|apply kA)); refine blk_put (cs := #[.int .u64 x301000_1, .int .u64 x301001_1]) ?_ 0 _ rfl; (with_reducible repeat (first|apply kN|apply kD|apply kA)); exact BK300.out) hb); have n2_ := aM (below_step (by repeat (first | (with_reducible first|exact HB.out|apply bA|apply bN|apply bD|refine bS ?_ GE299.out|refine bS ?_ GE300.out)|exact HB.out)) hb); clear BK299; clear BK300; clear HB; have BK299 := n0_; have BK300 := n1_; have HB := n2_; clear n0_ n1_ n2_; (try clear hb); have hcz17_0 : w16.cell? ⟨gb300, 0, none⟩ = some (.int .u64 t301) := (blk_cell BK300.out 0).trans rfl; have hcz17_1 : w16.cell? ⟨gb300, 1, none⟩ = some (.int .u64 t302) := (blk_cell BK300.out 1).trans rfl; have hfz17_0 := blk_frozen BK300.out 0; have hfz17_1 := blk_frozen BK300.out 1))
       go_roundg k1
       case measure => have := HK1.out; omega
       case rel => exact ⟨(wrap64 (x6_1 - 1)), (t303), (t304), (by first | rfl | (simp; done) | (simp [*]; done)), H', ⟨by have := HK1.out; omega⟩, ⟨by (with_reducible repeat (first|apply kN|apply kD|apply kA)); refine blk_far ?_ NB299_300.out _; (with_reducible repeat (first|apply kN|apply kD|apply kA)); refine blk_far ?_ NB299_300.out _; (with_reducible repeat (first|apply kN|apply kD|apply kA)); exact BK299.out⟩, ⟨by (with_reducible repeat (first|apply kN|apply kD|apply kA)); refine blk_put (cs := #[.int .u64 t303, .int .u64 t302]) ?_ 1 _ rfl; (with_reducible repeat (first|apply kN|apply kD|apply kA)); refine blk_put (cs := #[.int .u64 t301, .int .u64 t302]) ?_ 0 _ rfl; (with_reducible repeat (first|apply kN|apply kD|apply kA)); exact BK300.out⟩, ⟨by repeat (first | (with_reducible first|exact HB.out|apply bA|apply bN|apply bD|refine bS ?_ GE299.out|refine bS ?_ GE300.out)|exact HB.out)⟩⟩
     ·rw [if_neg c10] at H
      have c10b0 : ((Go.bits .and .u64 (ji9) 1) == 1) = false := beq_eq_false_iff_ne.mpr c10
      have c10b1 : ((Go.bits .and .u64 (ji9) 1) != 1) = true := bne_iff_ne.mpr c10
      as_aux_lemma =>
       have H' := Aside0.mk H
       clear H
       have hnb18 := NB300_299.out
       have hnc18 := NB299_300.out
       have hcz19_0 : wr.cell? ⟨gb300, 0, none⟩ = some (.int .u64 x301000_1) := (blk_cell BK300.out 0).trans rfl
       have hcz19_1 : wr.cell? ⟨gb300, 1, none⟩ = some (.int .u64 x301001_1) := (blk_cell BK300.out 1).trans rfl
       have hfz19_0 := blk_frozen BK300.out 0
       have hfz19_1 := blk_frozen BK300.out 1
       go_wp2_with (first | ((with_reducible refine gate_callee (f := 58) rfl ?_); refine goesL_ (some 12) rfl rfl Try.func58 (by kernel_rfl) rfl #[.agg #[.int .u64 x301000_1, .int .u64 x301001_1]] rfl (by (try simp only [List.map_toArray, List.map_cons, List.map_nil]); first | done | rfl | (simp only [List.length_drop, List.length_take]; rfl)) ?_; (with_reducible refine (athanorref01_double.calls x301000_1 x301001_1 t301 t302 _ A6.out).mono ?_); rintro e w20 ⟨rfl, hb⟩; refine ⟨_, rfl, ?_⟩; have n0_ := aM (blk_below (g := gb299) (o := .cells #[.int .u64 0, .int .u64 0] 73 (0, 0)) (by (with_reducible repeat (first|apply kN|apply kD|apply kA)); exact BK299.out) hb); have n1_ := aM (blk_below (g := gb300) (o := .cells #[.int .u64 x301000_1, .int .u64 x301001_1] 73 (0, 0)) (by (with_reducible repeat (first|apply kN|apply kD|apply kA)); exact BK300.out) hb); have n2_ := aM (below_step (by repeat (first | (with_reducible first|exact HB.out|apply bA|apply bN|apply bD|refine bS ?_ GE299.out|refine bS ?_ GE300.out)|exact HB.out)) hb); clear BK299; clear BK300; clear HB; have BK299 := n0_; have BK300 := n1_; have HB := n2_; clear n0_ n1_ n2_; (try clear hb); have hcz21_0 : w20.cell? ⟨gb300, 0, none⟩ = some (.int .u64 x301000_1) := (blk_cell BK300.out 0).trans rfl; have hcz21_1 : w20.cell? ⟨gb300, 1, none⟩ = some (.int .u64 x301001_1) := (blk_cell BK300.out 1).trans rfl; have hfz21_0 := blk_frozen BK300.out 0; have hfz21_1 := blk_frozen BK300.out 1))
       go_roundg k1
       case measure => have := HK1.out; omega
       case rel => exact ⟨(wrap64 (x6_1 - 1)), (t301), (t302), (by first | rfl | (simp; done) | (simp [*]; done)), H', ⟨by have := HK1.out; omega⟩, ⟨by (with_reducible repeat (first|apply kN|apply kD|apply kA)); refine blk_far ?_ NB299_300.out _; (with_reducible repeat (first|apply kN|apply kD|apply kA)); refine blk_far ?_ NB299_300.out _; (with_reducible repeat (first|apply kN|apply kD|apply kA)); exact BK299.out⟩, ⟨by (with_reducible repeat (first|apply kN|apply kD|apply kA)); refine blk_put (cs := #[.int .u64 t301, .int .u64 x301001_1]) ?_ 1 _ rfl; (with_reducible repeat (first|apply kN|apply kD|apply kA)); refine blk_put (cs := #[.int .u64 x301000_1, .int .u64 x301001_1]) ?_ 0 _ rfl; (with_reducible repeat (first|apply kN|apply kD|apply kA)); exact BK300.out⟩, ⟨by repeat (first | (with_reducible first|exact HB.out|apply bA|apply bN|apply bD|refine bS ?_ GE299.out|refine bS ?_ GE300.out)|exact HB.out)⟩⟩
    ·rw [if_neg c8] at H
     exact absurd H (by simp)
   ·rw [if_neg c5] at H
    have c5b0 : decide (0 ≤ x6_1) = false := decide_eq_false c5
    clear c5
    as_aux_lemma =>
     simp only [Option.some.injEq, Prod.mk.injEq] at H
     obtain ⟨rfl, rfl⟩ := H
     have hnb22 := NB300_299.out
     have hnc22 := NB299_300.out
     have hcz23_0 : wr.cell? ⟨gb300, 0, none⟩ = some (.int .u64 x301000_1) := (blk_cell BK300.out 0).trans rfl
     have hcz23_1 : wr.cell? ⟨gb300, 1, none⟩ = some (.int .u64 x301001_1) := (blk_cell BK300.out 1).trans rfl
     have hfz23_0 := blk_frozen BK300.out 0
     have hfz23_1 := blk_frozen BK300.out 1
     have hcz24_0 : wr.cell? ⟨gb299, 0, none⟩ = some (.int .u64 0) := (blk_cell BK299.out 0).trans rfl
     have hcz24_1 : wr.cell? ⟨gb299, 1, none⟩ = some (.int .u64 0) := (blk_cell BK299.out 1).trans rfl
     have hfz24_0 := blk_frozen BK299.out 0
     have hfz24_1 := blk_frozen BK299.out 1
     go_wp2
     refine bodyPost_ret (results_cell_row rfl _ _ gb299 73 #[.int .u64 x301000_1, .int .u64 x301001_1] (0, 0) _ rfl (by (with_reducible repeat (first|apply kN|apply kD|apply kA)); refine blk_put (cs := #[.int .u64 x301000_1, .int .u64 0]) ?_ 1 _ rfl; (with_reducible repeat (first|apply kN|apply kD|apply kA)); refine blk_put (cs := #[.int .u64 0, .int .u64 0]) ?_ 0 _ rfl; (with_reducible repeat (first|apply kN|apply kD|apply kA)); exact BK299.out) Try.underlying73 rfl (by kernel_rfl)) rfl ?_
     exact ⟨by first | rfl | (simp [errW_none, errW_some] <;> rfl) | (simp [*, errW_none, errW_some] <;> rfl), by repeat (first | (with_reducible first|exact HB.out|apply bA|apply bN|apply bD|refine bS ?_ GE299.out|refine bS ?_ GE300.out)|exact HB.out)⟩

/-! ### athanorref01_Size: function 48 -/
def athanorref01_Size.f (a0 : Int) : Option (Int) := if a0 < 0 then (some (IntKind.u64.wrap ((IntKind.u64.wrap (wrap64 (-(wrap64 (a0 + 1))))) + 1))) else (some (IntKind.u64.wrap (a0)))
set_option maxHeartbeats 8000000 in
set_option maxRecDepth 100000 in
theorem athanorref01_Size.calls (a0 : Int) (r : Int) (w : World) (h : athanorref01_Size.f a0 = some r) :
  Calls Try.prog 48 #[.int .i64 a0] w fun e w' => e = .returned (.int .u64 r) ∧ Drawn0 w w' := by
 have H : (if a0 < 0 then (some (IntKind.u64.wrap ((IntKind.u64.wrap (wrap64 (-(wrap64 (a0 + 1))))) + 1))) else (some (IntKind.u64.wrap (a0)))) = some r := h
 clear h
 by_cases c2 : a0 < 0
 ·rw [if_pos c2] at H
  have c2b0 : decide (a0 < 0) = true := decide_eq_true c2
  clear c2
  as_aux_lemma =>
   obtain rfl := Option.some.inj H
   go_enter Try.func48, Try.ntmps48
   go_wp2
   go_ret
   exact ⟨by first | rfl | (simp; done) | (simp [*]; done), by repeat (first|exact Drawn0.refl _|apply Drawn0.step)⟩
 ·rw [if_neg c2] at H
  have c2b0 : decide (a0 < 0) = false := decide_eq_false c2
  clear c2
  as_aux_lemma =>
   obtain rfl := Option.some.inj H
   go_enter Try.func48, Try.ntmps48
   go_wp2
   go_ret
   exact ⟨by first | rfl | (simp; done) | (simp [*]; done), by repeat (first|exact Drawn0.refl _|apply Drawn0.step)⟩

/-! ### athanorref01_Held: function 49 -/
def athanorref01_Held.j0 : Nat → Int → Bool → Option (Int)
 | 0, _, _ => none
 | k + 1, x0, x12 => if x12 = true then (some (-9223372036854775808)) else (if x0 = 9223372036854775808 then (some (-9223372036854775808)) else (some (wrap64 (-(wrap64 (x0))))))
def athanorref01_Held.f (k : Nat) (a0 : Int) (a1 : Bool) (a2 : Bool) : Option (Int) := if a2 = true then (if a1 = true then (athanorref01_Held.j0 k a0 true) else (athanorref01_Held.j0 k a0 (decide (a0 > 9223372036854775808)))) else (if a1 = true then (some 9223372036854775807) else (if a0 ≥ 9223372036854775808 then (some 9223372036854775807) else (some (wrap64 (a0)))))
theorem athanorref01_Held.mono_l : ∀ k, (∀ y0 y1, LeO (athanorref01_Held.j0 k y0 y1) (athanorref01_Held.j0 (k + 1) y0 y1))
 | 0 => fun _ _ r h => by simp [athanorref01_Held.j0] at h
 | k + 1 => by
  have ih0 := athanorref01_Held.mono_l k
  ·intro y0 y1
   unfold athanorref01_Held.j0
   repeat' first
   | (with_reducible exact ih0 _ _)
   | (with_reducible exact LeO.refl _)
   | (with_reducible exact LeO.none _)
   | (with_reducible refine LeO.ite ?_ ?_)
   | (with_reducible refine LeO.bind ?_ (fun _ => ?_))
   | exact ih0 _ _
   | exact LeO.none _
   | refine LeO.ite ?_ ?_
   | refine LeO.bind ?_ (fun _ => ?_)
theorem athanorref01_Held.mono : ∀ a0 a1 a2 k, LeO (athanorref01_Held.f k a0 a1 a2) (athanorref01_Held.f (k + 1) a0 a1 a2) := by
 intro a0 a1 a2 k
 have ih0 := athanorref01_Held.mono_l k
 unfold athanorref01_Held.f
 repeat' first
   | (with_reducible exact ih0 _ _)
   | (with_reducible exact LeO.refl _)
   | (with_reducible exact LeO.none _)
   | (with_reducible refine LeO.ite ?_ ?_)
   | (with_reducible refine LeO.bind ?_ (fun _ => ?_))
   | exact ih0 _ _
   | exact LeO.none _
   | refine LeO.ite ?_ ?_
   | refine LeO.bind ?_ (fun _ => ?_)
set_option maxHeartbeats 8000000 in
set_option maxRecDepth 100000 in
theorem athanorref01_Held.calls (k : Nat) (a0 : Int) (a1 : Bool) (a2 : Bool) (r : Int) (w : World) (h : athanorref01_Held.f k a0 a1 a2 = some r) :
  Calls Try.prog 49 #[.int .u64 a0, .bool a1, .bool a2] w fun e w' => e = .returned (.int .i64 r) ∧ Drawn0 w w' := by
 have H : (if a2 = true then (if a1 = true then (athanorref01_Held.j0 k a0 true) else (athanorref01_Held.j0 k a0 (decide (a0 > 9223372036854775808)))) else (if a1 = true then (some 9223372036854775807) else (if a0 ≥ 9223372036854775808 then (some 9223372036854775807) else (some (wrap64 (a0)))))) = some r := h
 clear h
 by_cases c4 : a2 = true
 ·subst c4
  have H1 : (if a1 = true then (athanorref01_Held.j0 k a0 true) else (athanorref01_Held.j0 k a0 (decide (a0 > 9223372036854775808)))) = some r := by rw [if_pos rfl] at H; exact H
  clear H
  have H := H1
  clear H1
  have HC5 := Aside0.mk H
  clear H
  go_enter Try.func49, Try.ntmps49
  go_upto_region 2 with (fail)
  go_cut [12] (fun v12 wc => ∃ (kq : Nat) (x12_4 : Bool), v12 = .bool x12_4 ∧ Aside0 (athanorref01_Held.j0 kq a0 x12_4 = some r) ∧ Aside0 (kq ≤ k) ∧ Drawn0 w wc)
  case first =>
   have H := HC5.out
   clear HC5
   by_cases c6 : a1 = true
   ·subst c6
    have H1 : (athanorref01_Held.j0 k a0 true) = some r := by rw [if_pos rfl] at H; exact H
    clear H
    have H := H1
    clear H1
    as_aux_lemma =>
     have H' := Aside0.mk H
     clear H
     go_wp2
     go_meet
     case rel => exact ⟨_, (true), (by first | rfl | (simp; done) | (simp [*]; done)), H', ⟨by first | omega|exact Nat.le_refl _⟩, by repeat (first|exact Drawn0.refl _|apply Drawn0.step)⟩
   ·replace c6 := Bool.eq_false_iff.mpr c6
    subst c6
    have H1 : (athanorref01_Held.j0 k a0 (decide (a0 > 9223372036854775808))) = some r := by rw [if_neg (show ¬ (false = true) by decide)] at H; exact H
    clear H
    have H := H1
    clear H1
    as_aux_lemma =>
     have H' := Aside0.mk H
     clear H
     go_wp2
     go_meet
     case rel => exact ⟨_, (decide (a0 > 9223372036854775808)), (by first | rfl | (simp; done) | (simp [*]; done)), H', ⟨by first | omega|exact Nat.le_refl _⟩, by repeat (first|exact Drawn0.refl _|apply Drawn0.step)⟩
  case rest =>
   clear HC5
   (try clear c4); (try clear c6)
   obtain ⟨kq, x12_4, rfl, HA, HJ4, ⟨mc4, rfl⟩⟩ := hcut
   cases kq with
   | zero => exact absurd HA.out (by simp [athanorref01_Held.j0])
   | succ kj4 =>
    have H := HA.out
    clear HA
    simp only [athanorref01_Held.j0] at H
    by_cases c7 : x12_4 = true
    ·subst c7
     have H1 : (some (-9223372036854775808)) = some r := by rw [if_pos rfl] at H; exact H
     clear H
     have H := H1
     clear H1
     as_aux_lemma =>
      obtain rfl := Option.some.inj H
      go_wp2
      go_ret
      exact ⟨by first | rfl | (simp; done) | (simp [*]; done), by repeat (first|exact Drawn0.refl _|apply Drawn0.step)⟩
    ·replace c7 := Bool.eq_false_iff.mpr c7
     subst c7
     have H1 : (if a0 = 9223372036854775808 then (some (-9223372036854775808)) else (some (wrap64 (-(wrap64 (a0)))))) = some r := by rw [if_neg (show ¬ (false = true) by decide)] at H; exact H
     clear H
     have H := H1
     clear H1
     by_cases c8 : a0 = 9223372036854775808
     ·rw [if_pos c8] at H
      have c8b0 : (a0 == 9223372036854775808) = true := beq_iff_eq.mpr c8
      have c8b1 : (a0 != 9223372036854775808) = false := bne_eq_false_iff_eq.mpr c8
      clear c8
      as_aux_lemma =>
       obtain rfl := Option.some.inj H
       go_wp2
       go_ret
       exact ⟨by first | rfl | (simp; done) | (simp [*]; done), by repeat (first|exact Drawn0.refl _|apply Drawn0.step)⟩
     ·rw [if_neg c8] at H
      have c8b0 : (a0 == 9223372036854775808) = false := beq_eq_false_iff_ne.mpr c8
      have c8b1 : (a0 != 9223372036854775808) = true := bne_iff_ne.mpr c8
      as_aux_lemma =>
       obtain rfl := Option.some.inj H
       go_wp2
       go_ret
       exact ⟨by first | rfl | (simp; done) | (simp [*]; done), by repeat (first|exact Drawn0.refl _|apply Drawn0.step)⟩
 ·replace c4 := Bool.eq_false_iff.mpr c4
  subst c4
  have H1 : (if a1 = true then (some 9223372036854775807) else (if a0 ≥ 9223372036854775808 then (some 9223372036854775807) else (some (wrap64 (a0))))) = some r := by rw [if_neg (show ¬ (false = true) by decide)] at H; exact H
  clear H
  have H := H1
  clear H1
  by_cases c9 : a1 = true
  ·subst c9
   have H1 : (some 9223372036854775807) = some r := by rw [if_pos rfl] at H; exact H
   clear H
   have H := H1
   clear H1
   as_aux_lemma =>
    obtain rfl := Option.some.inj H
    go_enter Try.func49, Try.ntmps49
    go_wp2
    go_ret
    exact ⟨by first | rfl | (simp; done) | (simp [*]; done), by repeat (first|exact Drawn0.refl _|apply Drawn0.step)⟩
  ·replace c9 := Bool.eq_false_iff.mpr c9
   subst c9
   have H1 : (if a0 ≥ 9223372036854775808 then (some 9223372036854775807) else (some (wrap64 (a0)))) = some r := by rw [if_neg (show ¬ (false = true) by decide)] at H; exact H
   clear H
   have H := H1
   clear H1
   by_cases c10 : a0 ≥ 9223372036854775808
   ·rw [if_pos c10] at H
    have c10b0 : decide (9223372036854775808 ≤ a0) = true := decide_eq_true c10
    clear c10
    as_aux_lemma =>
     obtain rfl := Option.some.inj H
     go_enter Try.func49, Try.ntmps49
     go_wp2
     go_ret
     exact ⟨by first | rfl | (simp; done) | (simp [*]; done), by repeat (first|exact Drawn0.refl _|apply Drawn0.step)⟩
   ·rw [if_neg c10] at H
    have c10b0 : decide (9223372036854775808 ≤ a0) = false := decide_eq_false c10
    clear c10
    as_aux_lemma =>
     obtain rfl := Option.some.inj H
     go_enter Try.func49, Try.ntmps49
     go_wp2
     go_ret
     exact ⟨by first | rfl | (simp; done) | (simp [*]; done), by repeat (first|exact Drawn0.refl _|apply Drawn0.step)⟩

end Go.Proofs.Ytgmgjddfceilhaa.PDen
