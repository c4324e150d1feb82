-- printed by wip/tools/xp.py of this project (not trusted: Lean checks it)
import Derived.Test.YtgmgjddfceilhaaPDenx0
import Derived.Test.YtgmgjddfceilhaaPDenAw
import Derived.Test.YtgmgjddfceilhaaPDenx8
import Derived.Test.YtgmgjddfceilhaaPDenx9
import Derived.Test.YtgmgjddfceilhaaPDenx11
import Derived.Test.YtgmgjddfceilhaaPDenx17
namespace Go.Proofs.Ytgmgjddfceilhaa.PDen
open Go.RowKit Go.Proofs.YtgmgjddfceilhaaW.PrintWords Go.Proofs.YtgmgjddfceilhaaW.PrintLast Go.Proofs.YtgmgjddfceilhaaW.PrintMore Go.Proofs.Ytgmgjddfceilhaa.XW
attribute [local go_sem] max2_int min2_int max_two min_two max_three min_three max_four min_four max_five min_five   -- for this text's walks alone
set_option linter.unusedVariables false
set_option linter.unusedSimpArgs false

/-! ### athanorlaw06_DenseBias: function 6 -/
mutual
def athanorlaw06_DenseBias.j0 : Nat → Bool → List Int → List Int → List Int → List Int → Option (Bool)
 | 0, _, _, _, _, _ => none
 | k + 1, x30, x473000, x473001, x474000, x474001 => if x30 = true then ((athanorlaw06_awake.f).bind fun t474 => (some t474)) else ((dense_Bias.f k x473000 x473001 x474000 x474001).bind fun bt475 => ((athanorlaw06_right.f k x473000 x473001).bind fun t483 => (if t483 = true then ((athanorlaw06_right.f k x474000 x474001).bind fun t484 => (if t484 = true then ((athanorref03_Same.f k x473000 x474000).bind fun t485 => (athanorlaw06_DenseBias.j1 k bt475.2.2 (!t485) x473000 x473001 x474000 x474001 bt475.1 bt475.2.1)) else (athanorlaw06_DenseBias.j1 k bt475.2.2 true x473000 x473001 x474000 x474001 bt475.1 bt475.2.1))) else (athanorlaw06_DenseBias.j1 k bt475.2.2 true x473000 x473001 x474000 x474001 bt475.1 bt475.2.1))))
def athanorlaw06_DenseBias.j1 : Nat → Int → Bool → List Int → List Int → List Int → List Int → List Int → List Int → Option (Bool)
 | 0, _, _, _, _, _, _, _, _ => none
 | k + 1, x6, x53, x473000, x473001, x474000, x474001, x483000, x483001 => if x53 = true then (if x6 = 20 then (if (x483001.length : Int) = 0 then ((athanorlaw06_awake.f).bind fun t486 => (some t486)) else (none)) else (none)) else (athanorlaw06_DenseBias.l0 k x6 ([] : List Int) (x473001.length : Int) 0 x473000 x473001 x474000 x474001 x483000 x483001)
def athanorlaw06_DenseBias.l0 : Nat → Int → List Int → Int → Int → List Int → List Int → List Int → List Int → List Int → List Int → Option (Bool)
 | 0, _, _, _, _, _, _, _, _, _, _ => none
 | k + 1, x6, x7, x67, x68, x473000, x473001, x474000, x474001, x483000, x483001 => if x68 < x67 then (if 0 ≤ x68 then (if x68 < (x474001.length : Int) then (if x68 < (x473001.length : Int) then ((athanorref01_Add.f k (rd x474001 x68) (rd x473001 x68)).bind fun t489 => (if x7.length < 17592186044416 then (athanorlaw06_DenseBias.l0 k x6 (x7 ++ [t489]) x67 (wrap64 (x68 + 1)) x473000 x473001 x474000 x474001 x483000 x483001) else (none))) else (none)) else (none)) else (none)) else (if x6 = 0 then ((athanorlaw06_same.f k x483000 x483001 x474000 x7).bind fun t493 => (if t493 = true then ((athanorlaw06_awake.f).bind fun t494 => (some t494)) else (none))) else (none))
end
def athanorlaw06_DenseBias.f (k : Nat) (l0_0 : List Int) (l0_1 : List Int) (l1_0 : List Int) (l1_1 : List Int) : Option (Bool) := if (l0_1.length : Int) > 400 then (athanorlaw06_DenseBias.j0 k true l0_0 l0_1 l1_0 l1_1) else (if (l1_1.length : Int) > 400 then (athanorlaw06_DenseBias.j0 k true l0_0 l0_1 l1_0 l1_1) else (if (l0_0.length : Int) > 9 then (athanorlaw06_DenseBias.j0 k true l0_0 l0_1 l1_0 l1_1) else (athanorlaw06_DenseBias.j0 k (decide ((l1_0.length : Int) > 9)) l0_0 l0_1 l1_0 l1_1)))
theorem athanorlaw06_DenseBias.mono_l : ∀ k, (∀ y0 y1 y2 y3 y4, LeO (athanorlaw06_DenseBias.j0 k y0 y1 y2 y3 y4) (athanorlaw06_DenseBias.j0 (k + 1) y0 y1 y2 y3 y4)) ∧ (∀ y0 y1 y2 y3 y4 y5 y6 y7, LeO (athanorlaw06_DenseBias.j1 k y0 y1 y2 y3 y4 y5 y6 y7) (athanorlaw06_DenseBias.j1 (k + 1) y0 y1 y2 y3 y4 y5 y6 y7)) ∧ (∀ y0 y1 y2 y3 y4 y5 y6 y7 y8 y9, LeO (athanorlaw06_DenseBias.l0 k y0 y1 y2 y3 y4 y5 y6 y7 y8 y9) (athanorlaw06_DenseBias.l0 (k + 1) y0 y1 y2 y3 y4 y5 y6 y7 y8 y9))
 | 0 => ⟨fun _ _ _ _ _ r h => by simp [athanorlaw06_DenseBias.j0] at h, fun _ _ _ _ _ _ _ _ r h => by simp [athanorlaw06_DenseBias.j1] at h, fun _ _ _ _ _ _ _ _ _ _ r h => by simp [athanorlaw06_DenseBias.l0] at h⟩
 | k + 1 => by
  obtain ⟨ih0, ih1, ih2⟩ := athanorlaw06_DenseBias.mono_l k
  refine ⟨?_, ?_, ?_⟩
  ·intro y0 y1 y2 y3 y4
   unfold athanorlaw06_DenseBias.j0
   repeat' first
   | (with_reducible exact ih0 _ _ _ _ _)
   | (with_reducible exact ih1 _ _ _ _ _ _ _ _)
   | (with_reducible exact ih2 _ _ _ _ _ _ _ _ _ _)
   | (with_reducible exact athanorlaw06_right.mono _ _ _)
   | (with_reducible exact athanorlaw06_same.mono _ _ _ _ _)
   | (with_reducible exact athanorref01_Add.mono _ _ _)
   | (with_reducible exact athanorref03_Same.mono _ _ _)
   | (with_reducible exact dense_Bias.mono _ _ _ _ _)
   | (with_reducible exact LeO.refl _)
   | (with_reducible exact LeO.none _)
   | (with_reducible refine LeO.ite ?_ ?_)
   | (with_reducible refine LeO.bind ?_ (fun _ => ?_))
   | exact ih0 _ _ _ _ _
   | exact ih1 _ _ _ _ _ _ _ _
   | exact ih2 _ _ _ _ _ _ _ _ _ _
   | exact athanorlaw06_right.mono _ _ _
   | exact athanorlaw06_same.mono _ _ _ _ _
   | exact athanorref01_Add.mono _ _ _
   | exact athanorref03_Same.mono _ _ _
   | exact dense_Bias.mono _ _ _ _ _
   | exact LeO.none _
   | refine LeO.ite ?_ ?_
   | refine LeO.bind ?_ (fun _ => ?_)
  ·intro y0 y1 y2 y3 y4 y5 y6 y7
   unfold athanorlaw06_DenseBias.j1
   repeat' first
   | (with_reducible exact ih0 _ _ _ _ _)
   | (with_reducible exact ih1 _ _ _ _ _ _ _ _)
   | (with_reducible exact ih2 _ _ _ _ _ _ _ _ _ _)
   | (with_reducible exact athanorlaw06_right.mono _ _ _)
   | (with_reducible exact athanorlaw06_same.mono _ _ _ _ _)
   | (with_reducible exact athanorref01_Add.mono _ _ _)
   | (with_reducible exact athanorref03_Same.mono _ _ _)
   | (with_reducible exact dense_Bias.mono _ _ _ _ _)
   | (with_reducible exact LeO.refl _)
   | (with_reducible exact LeO.none _)
   | (with_reducible refine LeO.ite ?_ ?_)
   | (with_reducible refine LeO.bind ?_ (fun _ => ?_))
   | exact ih0 _ _ _ _ _
   | exact ih1 _ _ _ _ _ _ _ _
   | exact ih2 _ _ _ _ _ _ _ _ _ _
   | exact athanorlaw06_right.mono _ _ _
   | exact athanorlaw06_same.mono _ _ _ _ _
   | exact athanorref01_Add.mono _ _ _
   | exact athanorref03_Same.mono _ _ _
   | exact dense_Bias.mono _ _ _ _ _
   | exact LeO.none _
   | refine LeO.ite ?_ ?_
   | refine LeO.bind ?_ (fun _ => ?_)
  ·intro y0 y1 y2 y3 y4 y5 y6 y7 y8 y9
   unfold athanorlaw06_DenseBias.l0
   repeat' first
   | (with_reducible exact ih0 _ _ _ _ _)
   | (with_reducible exact ih1 _ _ _ _ _ _ _ _)
   | (with_reducible exact ih2 _ _ _ _ _ _ _ _ _ _)
   | (with_reducible exact athanorlaw06_right.mono _ _ _)
   | (with_reducible exact athanorlaw06_same.mono _ _ _ _ _)
   | (with_reducible exact athanorref01_Add.mono _ _ _)
   | (with_reducible exact athanorref03_Same.mono _ _ _)
   | (with_reducible exact dense_Bias.mono _ _ _ _ _)
   | (with_reducible exact LeO.refl _)
   | (with_reducible exact LeO.none _)
   | (with_reducible refine LeO.ite ?_ ?_)
   | (with_reducible refine LeO.bind ?_ (fun _ => ?_))
   | exact ih0 _ _ _ _ _
   | exact ih1 _ _ _ _ _ _ _ _
   | exact ih2 _ _ _ _ _ _ _ _ _ _
   | exact athanorlaw06_right.mono _ _ _
   | exact athanorlaw06_same.mono _ _ _ _ _
   | exact athanorref01_Add.mono _ _ _
   | exact athanorref03_Same.mono _ _ _
   | exact dense_Bias.mono _ _ _ _ _
   | exact LeO.none _
   | refine LeO.ite ?_ ?_
   | refine LeO.bind ?_ (fun _ => ?_)
theorem athanorlaw06_DenseBias.mono : ∀ a0 a1 a2 a3 k, LeO (athanorlaw06_DenseBias.f k a0 a1 a2 a3) (athanorlaw06_DenseBias.f (k + 1) a0 a1 a2 a3) := by
 intro a0 a1 a2 a3 k
 obtain ⟨ih0, ih1, ih2⟩ := athanorlaw06_DenseBias.mono_l k
 unfold athanorlaw06_DenseBias.f
 repeat' first
   | (with_reducible exact ih0 _ _ _ _ _)
   | (with_reducible exact ih1 _ _ _ _ _ _ _ _)
   | (with_reducible exact ih2 _ _ _ _ _ _ _ _ _ _)
   | (with_reducible exact athanorlaw06_right.mono _ _ _)
   | (with_reducible exact athanorlaw06_same.mono _ _ _ _ _)
   | (with_reducible exact athanorref01_Add.mono _ _ _)
   | (with_reducible exact athanorref03_Same.mono _ _ _)
   | (with_reducible exact dense_Bias.mono _ _ _ _ _)
   | (with_reducible exact LeO.refl _)
   | (with_reducible exact LeO.none _)
   | (with_reducible refine LeO.ite ?_ ?_)
   | (with_reducible refine LeO.bind ?_ (fun _ => ?_))
   | exact ih0 _ _ _ _ _
   | exact ih1 _ _ _ _ _ _ _ _
   | exact ih2 _ _ _ _ _ _ _ _ _ _
   | exact athanorlaw06_right.mono _ _ _
   | exact athanorlaw06_same.mono _ _ _ _ _
   | exact athanorref01_Add.mono _ _ _
   | exact athanorref03_Same.mono _ _ _
   | exact dense_Bias.mono _ _ _ _ _
   | exact LeO.none _
   | refine LeO.ite ?_ ?_
   | refine LeO.bind ?_ (fun _ => ?_)
def athanorlaw06_DenseBias.T10 : Bool × List (List Nat × List Nat) := (true, [([], []), ([], []), ([1], [1]), ([], []), ([2, 3], [2, 3]), ([4], [4]), ([], []), ([6], [6]), ([], []), ([7, 8], [7, 8]), ([9], [9]), ([5, 10], [5, 10]), ([11], [11]), ([0, 12, 11], [0, 12]), ([13, 13, 0, 1, 2, 3, 4, 5, 6, 7, 8, 9, 10, 11, 12, 13], [0, 13])])
def athanorlaw06_DenseBias.B10 : List Nat := [0, 0, 2, 0, 14, 30, 0, 64, 0, 448, 960, 2046, 4094, 8191, 16383]
theorem athanorlaw06_DenseBias.tab10 : rtab .any (opsOf Try.f6 10) = athanorlaw06_DenseBias.T10 := by kernel_rfl
theorem athanorlaw06_DenseBias.bits10 : waitsOk athanorlaw06_DenseBias.T10.2 athanorlaw06_DenseBias.B10 = true := by kernel_rfl
set_option maxHeartbeats 8000000 in
set_option maxRecDepth 100000 in
theorem athanorlaw06_DenseBias.calls (k : Nat) (A0_0 : Option Addr) (c0_0 : Nat) (l0_0 : List Int) (A0_1 : Option Addr) (c0_1 : Nat) (l0_1 : List Int) (A1_0 : Option Addr) (c1_0 : Nat) (l1_0 : List Int) (A1_1 : Option Addr) (c1_1 : Nat) (l1_1 : List Int) (r : Bool) (w : World) (hr0_0 : Kd.C (Kd.int .i64) w A0_0 l0_0.length l0_0) (hc0_0 : l0_0.length ≤ c0_0) (hr0_1 : Kd.C (Kd.int .i64) w A0_1 l0_1.length l0_1) (hc0_1 : l0_1.length ≤ c0_1) (hr1_0 : Kd.C (Kd.int .i64) w A1_0 l1_0.length l1_0) (hc1_0 : l1_0.length ≤ c1_0) (hr1_1 : Kd.C (Kd.int .i64) w A1_1 l1_1.length l1_1) (hc1_1 : l1_1.length ≤ c1_1) (h : athanorlaw06_DenseBias.f k l0_0 l0_1 l1_0 l1_1 = some r) :
  Calls Try.prog 6 #[.agg #[.slice A0_0 l0_0.length c0_0, .slice A0_1 l0_1.length c0_1], .agg #[.slice A1_0 l1_0.length c1_0, .slice A1_1 l1_1.length c1_1]] w fun e w' => e = .returned (.bool r) ∧ Below w.heap.size w w' := by
 have hu26 := Try.underlying26
 have HR0_0 := Aside0.mk hr0_0
 have HC0_0 := Aside0.mk hc0_0
 clear hr0_0 hc0_0
 have HR0_1 := Aside0.mk hr0_1
 have HC0_1 := Aside0.mk hc0_1
 clear hr0_1 hc0_1
 have HR1_0 := Aside0.mk hr1_0
 have HC1_0 := Aside0.mk hc1_0
 clear hr1_0 hc1_0
 have HR1_1 := Aside0.mk hr1_1
 have HC1_1 := Aside0.mk hc1_1
 clear hr1_1 hc1_1
 have HB := aM (Below.refl w.heap.size w)
 have H : (if (l0_1.length : Int) > 400 then (athanorlaw06_DenseBias.j0 k true l0_0 l0_1 l1_0 l1_1) else (if (l1_1.length : Int) > 400 then (athanorlaw06_DenseBias.j0 k true l0_0 l0_1 l1_0 l1_1) else (if (l0_0.length : Int) > 9 then (athanorlaw06_DenseBias.j0 k true l0_0 l0_1 l1_0 l1_1) else (athanorlaw06_DenseBias.j0 k (decide ((l1_0.length : Int) > 9)) l0_0 l0_1 l1_0 l1_1)))) = some r := h
 clear h
 have HC3 := Aside0.mk H
 clear H
 go_enter Try.func6, Try.ntmps6
 go_upto_region 1 with (first | ((with_reducible refine gate_dst (N := 2) rfl ?_); (try (refine gate_guard (by rfl) ?_; dsimp only)); refine box_event ?hg (N := 2) ?hd (cs := #[.slice A0_0 l0_0.length c0_0, .slice A0_1 l0_1.length c0_1]) (t := 26) ?hr ?_; (case hd => rfl); (case hg => rfl); (case hr => first | (go_simp; done) | (go_simp; rfl)); intro gb472 hg w4 hbox hb; have n0_ := aM (below_step (by repeat (first | (with_reducible first|exact HB.out|apply bA|apply bN|apply bD)|exact HB.out)) hb); have n1_ := aM (hbox); have n2_ := aM ((by rw [hg]; exact (below_size (by repeat (first | (with_reducible first|exact HB.out|apply bA|apply bN|apply bD)|exact HB.out))) : w.heap.size ≤ gb472)); have n3_ := aM ((by rw [hg]; exact (below_size (by repeat (first | (with_reducible first|exact HB.out|apply bA|apply bN|apply bD)|exact HB.out))) : w.heap.size ≤ gb472)); clear HB; have HB := n0_; have BK472 := n1_; have GW472 := n2_; have GE472 := n3_; clear n0_ n1_ n2_ n3_; clear hb hbox hg) | ((with_reducible refine gate_dst (N := 3) rfl ?_); (try (refine gate_guard (by rfl) ?_; dsimp only)); refine box_event ?hg (N := 3) ?hd (cs := #[.slice A1_0 l1_0.length c1_0, .slice A1_1 l1_1.length c1_1]) (t := 26) ?hr ?_; (case hd => rfl); (case hg => rfl); (case hr => first | (go_simp; done) | (go_simp; rfl)); intro gb473 hg w5 hbox hb; have n0_ := aM (blk_below (g := gb472) (o := .cells #[.slice A0_0 l0_0.length c0_0, .slice A0_1 l0_1.length c0_1] 26 (0, 0)) (by (with_reducible repeat (first|apply kN|apply kD|apply kA)); exact BK472.out) hb); have n1_ := aM (below_step (by repeat (first | (with_reducible first|exact HB.out|apply bA|apply bN|apply bD|refine bS ?_ GE472.out)|exact HB.out)) hb); have n2_ := aM (hbox); have n3_ := aM ((by rw [hg]; exact (below_size (by repeat (first | (with_reducible first|exact HB.out|apply bA|apply bN|apply bD|refine bS ?_ GE472.out)|exact HB.out))) : w.heap.size ≤ gb473)); have n4_ := aM ((by rw [hg]; exact (below_size (by repeat (first | (with_reducible first|exact HB.out|apply bA|apply bN|apply bD|refine bS ?_ GE472.out)|exact HB.out))) : w.heap.size ≤ gb473)); have n5_ := aM ((by rw [hg]; exact Nat.ne_of_lt (blk_lt (g := gb472) (o := .cells #[.slice A0_0 l0_0.length c0_0, .slice A0_1 l0_1.length c0_1] 26 (0, 0)) (by (with_reducible repeat (first|apply kN|apply kD|apply kA)); exact BK472.out)) : gb472 ≠ gb473)); have n6_ := aM ((by rw [hg]; exact Nat.ne_of_gt (blk_lt (g := gb472) (o := .cells #[.slice A0_0 l0_0.length c0_0, .slice A0_1 l0_1.length c0_1] 26 (0, 0)) (by (with_reducible repeat (first|apply kN|apply kD|apply kA)); exact BK472.out)) : gb473 ≠ gb472)); clear BK472; clear HB; have BK472 := n0_; have HB := n1_; have BK473 := n2_; have GW473 := n3_; have GE473 := n4_; have NB472_473 := n5_; have NB473_472 := n6_; clear n0_ n1_ n2_ n3_ n4_ n5_ n6_; clear hb hbox hg))
 (try simp only [Act.put, List.setIfInBounds_toArray, List.set_cons_zero, List.set_cons_succ])
 go_cut [30] (fun v30 wc => ∃ (kq : Nat) (x30_2 : Bool), v30 = .bool x30_2 ∧ Aside0 (athanorlaw06_DenseBias.j0 kq x30_2 l0_0 l0_1 l1_0 l1_1 = some r) ∧ Aside0 (kq ≤ k) ∧ Aside0 (wc.heap[gb472]? = some (.cells #[(.slice A0_0 l0_0.length c0_0), (.slice A0_1 l0_1.length c0_1)] 26 (0, 0))) ∧ Aside0 (wc.heap[gb473]? = some (.cells #[(.slice A1_0 l1_0.length c1_0), (.slice A1_1 l1_1.length c1_1)] 26 (0, 0))) ∧ Aside0 (Below w.heap.size w wc))
 case first =>
  have H := HC3.out
  clear HC3
  by_cases c6 : (l0_1.length : Int) > 400
  ·rw [if_pos c6] at H
   have c6b0 : decide (400 < (l0_1.length : Int)) = true := decide_eq_true c6
   have c6b1 : decide (400 < l0_1.length) = true := decide_eq_true (by omega)
   clear c6
   (first | rw [c6b0] | (simp only [i64_w, i32_w]; rw [c6b0]) | skip)
   as_aux_lemma =>
    have H' := Aside0.mk H
    clear H
    have hnb7 := NB472_473.out
    have hnc7 := NB473_472.out
    have hcz8_0 : w5.cell? ⟨gb472, 0, none⟩ = some (.slice A0_0 l0_0.length c0_0) := (blk_cell BK472.out 0).trans rfl
    have hcz8_1 : w5.cell? ⟨gb472, 1, none⟩ = some (.slice A0_1 l0_1.length c0_1) := (blk_cell BK472.out 1).trans rfl
    have hfz8_0 := blk_frozen BK472.out 0
    have hfz8_1 := blk_frozen BK472.out 1
    go_wp2
    go_meet
    case rel => exact ⟨_, (true), (by first | rfl | (simp; done) | (simp [*]; done)), H', ⟨by first | omega|exact Nat.le_refl _⟩, ⟨by (with_reducible repeat (first|apply kN|apply kD|apply kA)); exact BK472.out⟩, ⟨by (with_reducible repeat (first|apply kN|apply kD|apply kA)); exact BK473.out⟩, ⟨by repeat (first | (with_reducible first|exact HB.out|apply bA|apply bN|apply bD|refine bS ?_ GE472.out|refine bS ?_ GE473.out)|exact HB.out)⟩⟩
  ·rw [if_neg c6] at H
   have c6b0 : decide (400 < (l0_1.length : Int)) = false := decide_eq_false c6
   have c6b1 : decide (400 < l0_1.length) = false := decide_eq_false (by omega)
   clear c6
   (first | rw [c6b0] | (simp only [i64_w, i32_w]; rw [c6b0]) | skip)
   by_cases c9 : (l1_1.length : Int) > 400
   ·rw [if_pos c9] at H
    have c9b0 : decide (400 < (l1_1.length : Int)) = true := decide_eq_true c9
    have c9b1 : decide (400 < l1_1.length) = true := decide_eq_true (by omega)
    clear c9
    as_aux_lemma =>
     have H' := Aside0.mk H
     clear H
     have hnb10 := NB472_473.out
     have hnc10 := NB473_472.out
     have hcz11_0 : w5.cell? ⟨gb472, 0, none⟩ = some (.slice A0_0 l0_0.length c0_0) := (blk_cell BK472.out 0).trans rfl
     have hcz11_1 : w5.cell? ⟨gb472, 1, none⟩ = some (.slice A0_1 l0_1.length c0_1) := (blk_cell BK472.out 1).trans rfl
     have hfz11_0 := blk_frozen BK472.out 0
     have hfz11_1 := blk_frozen BK472.out 1
     have hcz12_0 : w5.cell? ⟨gb473, 0, none⟩ = some (.slice A1_0 l1_0.length c1_0) := (blk_cell BK473.out 0).trans rfl
     have hcz12_1 : w5.cell? ⟨gb473, 1, none⟩ = some (.slice A1_1 l1_1.length c1_1) := (blk_cell BK473.out 1).trans rfl
     have hfz12_0 := blk_frozen BK473.out 0
     have hfz12_1 := blk_frozen BK473.out 1
     go_wp2
     go_meet
     case rel => exact ⟨_, (true), (by first | rfl | (simp; done) | (simp [*]; done)), H', ⟨by first | omega|exact Nat.le_refl _⟩, ⟨by (with_reducible repeat (first|apply kN|apply kD|apply kA)); exact BK472.out⟩, ⟨by (with_reducible repeat (first|apply kN|apply kD|apply kA)); exact BK473.out⟩, ⟨by repeat (first | (with_reducible first|exact HB.out|apply bA|apply bN|apply bD|refine bS ?_ GE472.out|refine bS ?_ GE473.out)|exact HB.out)⟩⟩
   ·rw [if_neg c9] at H
    have c9b0 : decide (400 < (l1_1.length : Int)) = false := decide_eq_false c9
    have c9b1 : decide (400 < l1_1.length) = false := decide_eq_false (by omega)
    clear c9
    by_cases c13 : (l0_0.length : Int) > 9
    ·rw [if_pos c13] at H
     have c13b0 : decide (9 < (l0_0.length : Int)) = true := decide_eq_true c13
     have c13b1 : decide (9 < l0_0.length) = true := decide_eq_true (by omega)
     clear c13
     as_aux_lemma =>
      have H' := Aside0.mk H
      clear H
      have hnb14 := NB472_473.out
      have hnc14 := NB473_472.out
      have hcz15_0 : w5.cell? ⟨gb472, 0, none⟩ = some (.slice A0_0 l0_0.length c0_0) := (blk_cell BK472.out 0).trans rfl
      have hcz15_1 : w5.cell? ⟨gb472, 1, none⟩ = some (.slice A0_1 l0_1.length c0_1) := (blk_cell BK472.out 1).trans rfl
      have hfz15_0 := blk_frozen BK472.out 0
      have hfz15_1 := blk_frozen BK472.out 1
      have hcz16_0 : w5.cell? ⟨gb473, 0, none⟩ = some (.slice A1_0 l1_0.length c1_0) := (blk_cell BK473.out 0).trans rfl
      have hcz16_1 : w5.cell? ⟨gb473, 1, none⟩ = some (.slice A1_1 l1_1.length c1_1) := (blk_cell BK473.out 1).trans rfl
      have hfz16_0 := blk_frozen BK473.out 0
      have hfz16_1 := blk_frozen BK473.out 1
      go_wp2
      go_meet
      case rel => exact ⟨_, (true), (by first | rfl | (simp; done) | (simp [*]; done)), H', ⟨by first | omega|exact Nat.le_refl _⟩, ⟨by (with_reducible repeat (first|apply kN|apply kD|apply kA)); exact BK472.out⟩, ⟨by (with_reducible repeat (first|apply kN|apply kD|apply kA)); exact BK473.out⟩, ⟨by repeat (first | (with_reducible first|exact HB.out|apply bA|apply bN|apply bD|refine bS ?_ GE472.out|refine bS ?_ GE473.out)|exact HB.out)⟩⟩
    ·rw [if_neg c13] at H
     have c13b0 : decide (9 < (l0_0.length : Int)) = false := decide_eq_false c13
     have c13b1 : decide (9 < l0_0.length) = false := decide_eq_false (by omega)
     clear c13
     as_aux_lemma =>
      have H' := Aside0.mk H
      clear H
      have hnb17 := NB472_473.out
      have hnc17 := NB473_472.out
      have hcz18_0 : w5.cell? ⟨gb472, 0, none⟩ = some (.slice A0_0 l0_0.length c0_0) := (blk_cell BK472.out 0).trans rfl
      have hcz18_1 : w5.cell? ⟨gb472, 1, none⟩ = some (.slice A0_1 l0_1.length c0_1) := (blk_cell BK472.out 1).trans rfl
      have hfz18_0 := blk_frozen BK472.out 0
      have hfz18_1 := blk_frozen BK472.out 1
      have hcz19_0 : w5.cell? ⟨gb473, 0, none⟩ = some (.slice A1_0 l1_0.length c1_0) := (blk_cell BK473.out 0).trans rfl
      have hcz19_1 : w5.cell? ⟨gb473, 1, none⟩ = some (.slice A1_1 l1_1.length c1_1) := (blk_cell BK473.out 1).trans rfl
      have hfz19_0 := blk_frozen BK473.out 0
      have hfz19_1 := blk_frozen BK473.out 1
      go_wp2
      go_meet
      case rel => exact ⟨_, (decide ((l1_0.length : Int) > 9)), (by first | rfl | (simp; done) | (simp [*]; done)), H', ⟨by first | omega|exact Nat.le_refl _⟩, ⟨by (with_reducible repeat (first|apply kN|apply kD|apply kA)); exact BK472.out⟩, ⟨by (with_reducible repeat (first|apply kN|apply kD|apply kA)); exact BK473.out⟩, ⟨by repeat (first | (with_reducible first|exact HB.out|apply bA|apply bN|apply bD|refine bS ?_ GE472.out|refine bS ?_ GE473.out)|exact HB.out)⟩⟩
 case rest =>
  clear HC3
  (try clear c6); (try clear c6b0); (try clear c6b1); (try clear c9); (try clear c9b0); (try clear c9b1); (try clear c13); (try clear c13b0); (try clear c13b1); (try clear hcz11_0); (try clear hcz11_1); (try clear hcz12_0); (try clear hcz12_1); (try clear hcz15_0); (try clear hcz15_1); (try clear hcz16_0); (try clear hcz16_1); (try clear hcz18_0); (try clear hcz18_1); (try clear hcz19_0); (try clear hcz19_1); (try clear hcz8_0); (try clear hcz8_1); (try clear hfz11_0); (try clear hfz11_1); (try clear hfz12_0); (try clear hfz12_1); (try clear hfz15_0); (try clear hfz15_1); (try clear hfz16_0); (try clear hfz16_1); (try clear hfz18_0); (try clear hfz18_1); (try clear hfz19_0); (try clear hfz19_1); (try clear hfz8_0); (try clear hfz8_1)
  obtain ⟨kq, x30_2, rfl, HA, HJ2, BK472, BK473, HB⟩ := hcut
  cases kq with
  | zero => exact absurd HA.out (by simp [athanorlaw06_DenseBias.j0])
  | succ kj2 =>
   have H := HA.out
   clear HA
   simp only [athanorlaw06_DenseBias.j0] at H
   by_cases c20 : x30_2 = true
   ·subst c20
    have H1 : ((athanorlaw06_awake.f).bind fun t474 => (some t474)) = some r := by rw [if_pos rfl] at H; exact H
    clear H
    have H := H1
    clear H1
    replace H := Option.bind_eq_some_iff.mp H
    obtain ⟨t474, A210, H⟩ := H
    replace H : (some t474) = some r := H
    have A21 := Aside0.mk A210
    clear A210
    as_aux_lemma =>
     obtain rfl := Option.some.inj H
     go_wp2_with (first | ((with_reducible refine gate_callee (f := 9) rfl ?_); refine goesL_ (some 31) rfl rfl Try.func9 (by kernel_rfl) rfl #[] rfl (by (try simp only [List.map_toArray, List.map_cons, List.map_nil]); first | done | rfl | (simp only [List.length_drop, List.length_take]; rfl)) ?_; (with_reducible refine (athanorlaw06_awake.calls  t474 _ A21.out).mono ?_); rintro e w22 ⟨rfl, hb⟩; refine ⟨_, rfl, ?_⟩; have n0_ := aM (blk_below (g := gb472) (o := .cells #[.slice A0_0 l0_0.length c0_0, .slice A0_1 l0_1.length c0_1] 26 (0, 0)) (by (with_reducible repeat (first|apply kN|apply kD|apply kA)); exact BK472.out) hb); have n1_ := aM (blk_below (g := gb473) (o := .cells #[.slice A1_0 l1_0.length c1_0, .slice A1_1 l1_1.length c1_1] 26 (0, 0)) (by (with_reducible repeat (first|apply kN|apply kD|apply kA)); exact BK473.out) hb); have n2_ := aM (below_step (by repeat (first | (with_reducible first|exact HB.out|apply bA|apply bN|apply bD|refine bS ?_ GE472.out|refine bS ?_ GE473.out)|exact HB.out)) hb); clear BK472; clear BK473; clear HB; have BK472 := n0_; have BK473 := n1_; have HB := n2_; clear n0_ n1_ n2_; (try clear hb)))
     go_ret
     exact ⟨by first | rfl | (simp [errW_none, errW_some] <;> rfl) | (simp [*, errW_none, errW_some] <;> rfl), by repeat (first | (with_reducible first|exact HB.out|apply bA|apply bN|apply bD|refine bS ?_ GE472.out|refine bS ?_ GE473.out)|exact HB.out)⟩
   ·replace c20 := Bool.eq_false_iff.mpr c20
    subst c20
    have H1 : ((dense_Bias.f kj2 l0_0 l0_1 l1_0 l1_1).bind fun bt475 => ((athanorlaw06_right.f kj2 l0_0 l0_1).bind fun t483 => (if t483 = true then ((athanorlaw06_right.f kj2 l1_0 l1_1).bind fun t484 => (if t484 = true then ((athanorref03_Same.f kj2 l0_0 l1_0).bind fun t485 => (athanorlaw06_DenseBias.j1 kj2 bt475.2.2 (!t485) l0_0 l0_1 l1_0 l1_1 bt475.1 bt475.2.1)) else (athanorlaw06_DenseBias.j1 kj2 bt475.2.2 true l0_0 l0_1 l1_0 l1_1 bt475.1 bt475.2.1))) else (athanorlaw06_DenseBias.j1 kj2 bt475.2.2 true l0_0 l0_1 l1_0 l1_1 bt475.1 bt475.2.1)))) = some r := by rw [if_neg (show ¬ (false = true) by decide)] at H; exact H
    clear H
    have H := H1
    clear H1
    replace H := Option.bind_eq_some_iff.mp H
    obtain ⟨⟨t475, t478, t481⟩, A230, H⟩ := H
    replace H : ((athanorlaw06_right.f kj2 l0_0 l0_1).bind fun t483 => (if t483 = true then ((athanorlaw06_right.f kj2 l1_0 l1_1).bind fun t484 => (if t484 = true then ((athanorref03_Same.f kj2 l0_0 l1_0).bind fun t485 => (athanorlaw06_DenseBias.j1 kj2 t481 (!t485) l0_0 l0_1 l1_0 l1_1 t475 t478)) else (athanorlaw06_DenseBias.j1 kj2 t481 true l0_0 l0_1 l1_0 l1_1 t475 t478))) else (athanorlaw06_DenseBias.j1 kj2 t481 true l0_0 l0_1 l1_0 l1_1 t475 t478))) = some r := H
    have A23 := Aside0.mk A230
    clear A230
    have HC24 := Aside0.mk H
    clear H
    have hnb25 := NB472_473.out
    have hnc25 := NB473_472.out
    have hcz26_0 : wc.cell? ⟨gb472, 0, none⟩ = some (.slice A0_0 l0_0.length c0_0) := (blk_cell BK472.out 0).trans rfl
    have hcz26_1 : wc.cell? ⟨gb472, 1, none⟩ = some (.slice A0_1 l0_1.length c0_1) := (blk_cell BK472.out 1).trans rfl
    have hfz26_0 := blk_frozen BK472.out 0
    have hfz26_1 := blk_frozen BK472.out 1
    have hcz27_0 : wc.cell? ⟨gb473, 0, none⟩ = some (.slice A1_0 l1_0.length c1_0) := (blk_cell BK473.out 0).trans rfl
    have hcz27_1 : wc.cell? ⟨gb473, 1, none⟩ = some (.slice A1_1 l1_1.length c1_1) := (blk_cell BK473.out 1).trans rfl
    have hfz27_0 := blk_frozen BK473.out 0
    have hfz27_1 := blk_frozen BK473.out 1
    go_upto_region 4 with (first | ((with_reducible refine gate_callee (f := 22) rfl ?_); refine goesL_ (some 35) rfl rfl Try.func22 (by kernel_rfl) rfl #[.agg #[.slice A0_0 l0_0.length c0_0, .slice A0_1 l0_1.length c0_1], .agg #[.slice A1_0 l1_0.length c1_0, .slice A1_1 l1_1.length c1_1]] rfl (by (try simp only [List.map_toArray, List.map_cons, List.map_nil]); first | done | rfl | (simp only [List.length_drop, List.length_take]; rfl)) ?_; (with_reducible refine (dense_Bias.calls kj2 _ _ l0_0 _ _ l0_1 _ _ l1_0 _ _ l1_1 t475 t478 t481 _ ?side1 ?side2 ?side3 ?side4 ?side5 ?side6 ?side7 ?side8 A23.out).mono ?_); (case side1 => repeat (first|exact (Kd.C_below HR0_0.out HB.out) | with_reducible first|apply cA|apply cN|apply cD)); (case side2 => exact HC0_0.out); (case side3 => repeat (first|exact (Kd.C_below HR0_1.out HB.out) | with_reducible first|apply cA|apply cN|apply cD)); (case side4 => exact HC0_1.out); (case side5 => repeat (first|exact (Kd.C_below HR1_0.out HB.out) | with_reducible first|apply cA|apply cN|apply cD)); (case side6 => exact HC1_0.out); (case side7 => repeat (first|exact (Kd.C_below HR1_1.out HB.out) | with_reducible first|apply cA|apply cN|apply cD)); (case side8 => exact HC1_1.out); rintro e w28 ⟨v476, v479, rfl, ho0, ho1, hb⟩; refine ⟨_, rfl, ?_⟩; have n0_ := aM (Kd.R_lower ho0 (below_size (by repeat (first | (with_reducible first|exact HB.out|apply bA|apply bN|apply bD|refine bS ?_ GE472.out|refine bS ?_ GE473.out)|exact HB.out)))); have n1_ := aM (Kd.R_lower ho1 (below_size (by repeat (first | (with_reducible first|exact HB.out|apply bA|apply bN|apply bD|refine bS ?_ GE472.out|refine bS ?_ GE473.out)|exact HB.out)))); have n2_ := aM (blk_below (g := gb472) (o := .cells #[.slice A0_0 l0_0.length c0_0, .slice A0_1 l0_1.length c0_1] 26 (0, 0)) (by (with_reducible repeat (first|apply kN|apply kD|apply kA)); exact BK472.out) hb); have n3_ := aM (blk_below (g := gb473) (o := .cells #[.slice A1_0 l1_0.length c1_0, .slice A1_1 l1_1.length c1_1] 26 (0, 0)) (by (with_reducible repeat (first|apply kN|apply kD|apply kA)); exact BK473.out) hb); have n4_ := aM (below_step (by repeat (first | (with_reducible first|exact HB.out|apply bA|apply bN|apply bD|refine bS ?_ GE472.out|refine bS ?_ GE473.out)|exact HB.out)) hb); clear BK472; clear BK473; clear HB; have HO477 := n0_; have HO480 := n1_; have BK472 := n2_; have BK473 := n3_; have HB := n4_; clear n0_ n1_ n2_ n3_ n4_; (try clear hb); (try clear ho0); (try clear ho1)) | ((with_reducible refine gate_dst (N := 5) rfl ?_); (try (refine gate_guard (by rfl) ?_; dsimp only)); refine box_event ?hg (N := 5) ?hd (cs := #[.slice none 0 0, .slice none 0 0]) (t := 26) ?hr ?_; (case hd => rfl); (case hg => rfl); (case hr => first | (go_simp; done) | (go_simp; rfl)); intro gb482 hg w29 hbox hb; have n0_ := aM (Kd.R_below (by (with_reducible repeat (first|apply rA|apply rN|apply rD)); exact HO477.out) hb); have n1_ := aM (Kd.R_below (by (with_reducible repeat (first|apply rA|apply rN|apply rD)); exact HO480.out) hb); have n2_ := aM (blk_below (g := gb472) (o := .cells #[.slice A0_0 l0_0.length c0_0, .slice A0_1 l0_1.length c0_1] 26 (0, 0)) (by (with_reducible repeat (first|apply kN|apply kD|apply kA)); exact BK472.out) hb); have n3_ := aM (blk_below (g := gb473) (o := .cells #[.slice A1_0 l1_0.length c1_0, .slice A1_1 l1_1.length c1_1] 26 (0, 0)) (by (with_reducible repeat (first|apply kN|apply kD|apply kA)); exact BK473.out) hb); have n4_ := aM (below_step (by repeat (first | (with_reducible first|exact HB.out|apply bA|apply bN|apply bD|refine bS ?_ GE472.out|refine bS ?_ GE473.out)|exact HB.out)) hb); have n5_ := aM (hbox); have n6_ := aM ((by rw [hg]; exact (below_size (by repeat (first | (with_reducible first|exact HB.out|apply bA|apply bN|apply bD|refine bS ?_ GE472.out|refine bS ?_ GE473.out)|exact HB.out))) : w.heap.size ≤ gb482)); have n7_ := aM ((by rw [hg]; exact (below_size (by repeat (first | (with_reducible first|exact HB.out|apply bA|apply bN|apply bD|refine bS ?_ GE472.out|refine bS ?_ GE473.out)|exact HB.out))) : w.heap.size ≤ gb482)); have n8_ := aM ((by rw [hg]; exact Nat.ne_of_lt (blk_lt (g := gb472) (o := .cells #[.slice A0_0 l0_0.length c0_0, .slice A0_1 l0_1.length c0_1] 26 (0, 0)) (by (with_reducible repeat (first|apply kN|apply kD|apply kA)); exact BK472.out)) : gb472 ≠ gb482)); have n9_ := aM ((by rw [hg]; exact Nat.ne_of_gt (blk_lt (g := gb472) (o := .cells #[.slice A0_0 l0_0.length c0_0, .slice A0_1 l0_1.length c0_1] 26 (0, 0)) (by (with_reducible repeat (first|apply kN|apply kD|apply kA)); exact BK472.out)) : gb482 ≠ gb472)); have n10_ := aM ((by rw [hg]; exact Nat.ne_of_lt (blk_lt (g := gb473) (o := .cells #[.slice A1_0 l1_0.length c1_0, .slice A1_1 l1_1.length c1_1] 26 (0, 0)) (by (with_reducible repeat (first|apply kN|apply kD|apply kA)); exact BK473.out)) : gb473 ≠ gb482)); have n11_ := aM ((by rw [hg]; exact Nat.ne_of_gt (blk_lt (g := gb473) (o := .cells #[.slice A1_0 l1_0.length c1_0, .slice A1_1 l1_1.length c1_1] 26 (0, 0)) (by (with_reducible repeat (first|apply kN|apply kD|apply kA)); exact BK473.out)) : gb482 ≠ gb473)); clear HO477; clear HO480; clear BK472; clear BK473; clear HB; have HO477 := n0_; have HO480 := n1_; have BK472 := n2_; have BK473 := n3_; have HB := n4_; have BK482 := n5_; have GW482 := n6_; have GE482 := n7_; have NB472_482 := n8_; have NB482_472 := n9_; have NB473_482 := n10_; have NB482_473 := n11_; clear n0_ n1_ n2_ n3_ n4_ n5_ n6_ n7_ n8_ n9_ n10_ n11_; clear hb hbox hg; obtain ⟨Ao30, co30, eo30⟩ := Kd.R_slice HO477.out; subst eo30; have hnb31 := NB482_472.out; have hnc31 := NB472_482.out; have hnb32 := NB482_473.out; have hnc32 := NB473_482.out; have hcz33_0 : w29.cell? ⟨gb482, 0, none⟩ = some (.slice none 0 0) := (blk_cell BK482.out 0).trans rfl; have hcz33_1 : w29.cell? ⟨gb482, 1, none⟩ = some (.slice none 0 0) := (blk_cell BK482.out 1).trans rfl; have hfz33_0 := blk_frozen BK482.out 0; have hfz33_1 := blk_frozen BK482.out 1; obtain ⟨Ao34, co34, eo34⟩ := Kd.R_slice HO480.out; subst eo34))
    (try simp only [Act.put, List.setIfInBounds_toArray, List.set_cons_zero, List.set_cons_succ])
    go_cut [53] (fun v53 wc => ∃ (kq : Nat) (x53_23 : Bool), v53 = .bool x53_23 ∧ Aside0 (athanorlaw06_DenseBias.j1 kq t481 x53_23 l0_0 l0_1 l1_0 l1_1 t475 t478 = some r) ∧ Aside0 (kq ≤ kj2) ∧ Aside0 (Kd.R (Kd.int .i64) 3 wc w.heap.size (fun _ => True) (.slice Ao30 t475.length co30) t475) ∧ Aside0 (Kd.R (Kd.int .i64) 47 wc w.heap.size (fun _ => True) (.slice Ao34 t478.length co34) t478) ∧ Aside0 (wc.heap[gb472]? = some (.cells #[(.slice A0_0 l0_0.length c0_0), (.slice A0_1 l0_1.length c0_1)] 26 (0, 0))) ∧ Aside0 (wc.heap[gb473]? = some (.cells #[(.slice A1_0 l1_0.length c1_0), (.slice A1_1 l1_1.length c1_1)] 26 (0, 0))) ∧ Aside0 (wc.heap[gb482]? = some (.cells #[(.slice Ao30 t475.length co30), (.slice Ao34 t478.length co34)] 26 (0, 0))) ∧ Aside0 (Below w.heap.size w wc))
    case first =>
     have H := HC24.out
     clear HC24
     replace H := Option.bind_eq_some_iff.mp H
     obtain ⟨t483, A350, H⟩ := H
     replace H : (if t483 = true then ((athanorlaw06_right.f kj2 l1_0 l1_1).bind fun t484 => (if t484 = true then ((athanorref03_Same.f kj2 l0_0 l1_0).bind fun t485 => (athanorlaw06_DenseBias.j1 kj2 t481 (!t485) l0_0 l0_1 l1_0 l1_1 t475 t478)) else (athanorlaw06_DenseBias.j1 kj2 t481 true l0_0 l0_1 l1_0 l1_1 t475 t478))) else (athanorlaw06_DenseBias.j1 kj2 t481 true l0_0 l0_1 l1_0 l1_1 t475 t478)) = some r := H
     have A35 := Aside0.mk A350
     clear A350
     by_cases c36 : t483 = true
     ·subst c36
      have H1 : ((athanorlaw06_right.f kj2 l1_0 l1_1).bind fun t484 => (if t484 = true then ((athanorref03_Same.f kj2 l0_0 l1_0).bind fun t485 => (athanorlaw06_DenseBias.j1 kj2 t481 (!t485) l0_0 l0_1 l1_0 l1_1 t475 t478)) else (athanorlaw06_DenseBias.j1 kj2 t481 true l0_0 l0_1 l1_0 l1_1 t475 t478))) = some r := by rw [if_pos rfl] at H; exact H
      clear H
      have H := H1
      clear H1
      replace H := Option.bind_eq_some_iff.mp H
      obtain ⟨t484, A370, H⟩ := H
      replace H : (if t484 = true then ((athanorref03_Same.f kj2 l0_0 l1_0).bind fun t485 => (athanorlaw06_DenseBias.j1 kj2 t481 (!t485) l0_0 l0_1 l1_0 l1_1 t475 t478)) else (athanorlaw06_DenseBias.j1 kj2 t481 true l0_0 l0_1 l1_0 l1_1 t475 t478)) = some r := H
      have A37 := Aside0.mk A370
      clear A370
      by_cases c38 : t484 = true
      ·subst c38
       have H1 : ((athanorref03_Same.f kj2 l0_0 l1_0).bind fun t485 => (athanorlaw06_DenseBias.j1 kj2 t481 (!t485) l0_0 l0_1 l1_0 l1_1 t475 t478)) = some r := by rw [if_pos rfl] at H; exact H
       clear H
       have H := H1
       clear H1
       replace H := Option.bind_eq_some_iff.mp H
       obtain ⟨t485, A390, H⟩ := H
       replace H : (athanorlaw06_DenseBias.j1 kj2 t481 (!t485) l0_0 l0_1 l1_0 l1_1 t475 t478) = some r := H
       have A39 := Aside0.mk A390
       clear A390
       as_aux_lemma =>
        have H' := Aside0.mk H
        clear H
        have hnb40 := NB472_473.out
        have hnc40 := NB473_472.out
        have hnb41 := NB472_482.out
        have hnc41 := NB482_472.out
        have hcz42_0 : w29.cell? ⟨gb472, 0, none⟩ = some (.slice A0_0 l0_0.length c0_0) := (blk_cell BK472.out 0).trans rfl
        have hcz42_1 : w29.cell? ⟨gb472, 1, none⟩ = some (.slice A0_1 l0_1.length c0_1) := (blk_cell BK472.out 1).trans rfl
        have hfz42_0 := blk_frozen BK472.out 0
        have hfz42_1 := blk_frozen BK472.out 1
        go_wp2_with (first | ((with_reducible refine gate_callee (f := 16) rfl ?_); refine goesL_ (some 39) rfl rfl Try.func16 (by kernel_rfl) rfl #[.agg #[.slice A0_0 l0_0.length c0_0, .slice A0_1 l0_1.length c0_1]] rfl (by (try simp only [List.map_toArray, List.map_cons, List.map_nil]); first | done | rfl | (simp only [List.length_drop, List.length_take]; rfl)) ?_; (with_reducible refine (athanorlaw06_right.calls kj2 _ _ l0_0 _ _ l0_1 true _ ?side1 ?side2 ?side3 ?side4 A35.out).mono ?_); (case side1 => exact Kd.C_below HR0_0.out (by repeat (first | (with_reducible first|exact HB.out|apply bA|apply bN|apply bD|refine bS ?_ GE472.out|refine bS ?_ GE473.out|refine bS ?_ GE482.out)|exact HB.out))); (case side2 => exact HC0_0.out); (case side3 => exact Kd.C_below HR0_1.out (by repeat (first | (with_reducible first|exact HB.out|apply bA|apply bN|apply bD|refine bS ?_ GE472.out|refine bS ?_ GE473.out|refine bS ?_ GE482.out)|exact HB.out))); (case side4 => exact HC0_1.out); rintro e w43 ⟨rfl, hb⟩; refine ⟨_, rfl, ?_⟩; have n0_ := aM (Kd.R_below (by (with_reducible repeat (first|apply rA|apply rN|apply rD)); exact (Kd.R_mono (Kd.R_far (p := ⟨gb482, 1, none⟩) (Kd.R_far (p := ⟨gb482, 0, none⟩) (Kd.R_types HO477.out BK482.out (by decide)) (fun _ hk => hk.2) (.slice Ao30 t475.length co30)) (fun _ hk => hk.2) (.slice Ao34 t478.length co34)) (fun _ h_ => h_.1))) hb); have n1_ := aM (Kd.R_below (by (with_reducible repeat (first|apply rA|apply rN|apply rD)); exact (Kd.R_mono (Kd.R_far (p := ⟨gb482, 1, none⟩) (Kd.R_far (p := ⟨gb482, 0, none⟩) (Kd.R_types HO480.out BK482.out (by decide)) (fun _ hk => hk.2) (.slice Ao30 t475.length co30)) (fun _ hk => hk.2) (.slice Ao34 t478.length co34)) (fun _ h_ => h_.1))) hb); have n2_ := aM (blk_below (g := gb472) (o := .cells #[.slice A0_0 l0_0.length c0_0, .slice A0_1 l0_1.length c0_1] 26 (0, 0)) (by (with_reducible repeat (first|apply kN|apply kD|apply kA)); refine blk_far ?_ NB472_482.out _; (with_reducible repeat (first|apply kN|apply kD|apply kA)); refine blk_far ?_ NB472_482.out _; (with_reducible repeat (first|apply kN|apply kD|apply kA)); exact BK472.out) hb); have n3_ := aM (blk_below (g := gb473) (o := .cells #[.slice A1_0 l1_0.length c1_0, .slice A1_1 l1_1.length c1_1] 26 (0, 0)) (by (with_reducible repeat (first|apply kN|apply kD|apply kA)); refine blk_far ?_ NB473_482.out _; (with_reducible repeat (first|apply kN|apply kD|apply kA)); refine blk_far ?_ NB473_482.out _; (with_reducible repeat (first|apply kN|apply kD|apply kA)); exact BK473.out) hb); have n4_ := aM (blk_below (g := gb482) (o := .cells #[.slice Ao30 t475.length co30, .slice Ao34 t478.length co34] 26 (0, 0)) (by (with_reducible repeat (first|apply kN|apply kD|apply kA)); refine blk_put (cs := #[.slice Ao30 t475.length co30, .slice none 0 0]) ?_ 1 _ rfl; (with_reducible repeat (first|apply kN|apply kD|apply kA)); refine blk_put (cs := #[.slice none 0 0, .slice none 0 0]) ?_ 0 _ rfl; (with_reducible repeat (first|apply kN|apply kD|apply kA)); exact BK482.out) hb); have n5_ := aM (below_step (by repeat (first | (with_reducible first|exact HB.out|apply bA|apply bN|apply bD|refine bS ?_ GE472.out|refine bS ?_ GE473.out|refine bS ?_ GE482.out)|exact HB.out)) hb); clear HO477; clear HO480; clear BK472; clear BK473; clear BK482; clear HB; have HO477 := n0_; have HO480 := n1_; have BK472 := n2_; have BK473 := n3_; have BK482 := n4_; have HB := n5_; clear n0_ n1_ n2_ n3_ n4_ n5_; (try clear hb); (try clear hk); have hnb44 := NB473_482.out; have hnc44 := NB482_473.out; have hcz45_0 : w43.cell? ⟨gb473, 0, none⟩ = some (.slice A1_0 l1_0.length c1_0) := (blk_cell BK473.out 0).trans rfl; have hcz45_1 : w43.cell? ⟨gb473, 1, none⟩ = some (.slice A1_1 l1_1.length c1_1) := (blk_cell BK473.out 1).trans rfl; have hfz45_0 := blk_frozen BK473.out 0; have hfz45_1 := blk_frozen BK473.out 1) | (go_at_call 16; (with_reducible refine (athanorlaw06_right.calls kj2 _ _ l1_0 _ _ l1_1 true _ ?side1 ?side2 ?side3 ?side4 A37.out).mono ?_); (case side1 => repeat (first|exact (Kd.C_below HR1_0.out HB.out) | with_reducible first|apply cA|apply cN|apply cD)); (case side2 => exact HC1_0.out); (case side3 => repeat (first|exact (Kd.C_below HR1_1.out HB.out) | with_reducible first|apply cA|apply cN|apply cD)); (case side4 => exact HC1_1.out); rintro e w46 ⟨rfl, hb⟩; have n0_ := aM (Kd.R_below (by (with_reducible repeat (first|apply rA|apply rN|apply rD)); exact HO477.out) hb); have n1_ := aM (Kd.R_below (by (with_reducible repeat (first|apply rA|apply rN|apply rD)); exact HO480.out) hb); have n2_ := aM (blk_below (g := gb472) (o := .cells #[.slice A0_0 l0_0.length c0_0, .slice A0_1 l0_1.length c0_1] 26 (0, 0)) (by (with_reducible repeat (first|apply kN|apply kD|apply kA)); exact BK472.out) hb); have n3_ := aM (blk_below (g := gb473) (o := .cells #[.slice A1_0 l1_0.length c1_0, .slice A1_1 l1_1.length c1_1] 26 (0, 0)) (by (with_reducible repeat (first|apply kN|apply kD|apply kA)); exact BK473.out) hb); have n4_ := aM (blk_below (g := gb482) (o := .cells #[.slice Ao30 t475.length co30, .slice Ao34 t478.length co34] 26 (0, 0)) (by (with_reducible repeat (first|apply kN|apply kD|apply kA)); exact BK482.out) hb); have n5_ := aM (below_step (by repeat (first | (with_reducible first|exact HB.out|apply bA|apply bN|apply bD|refine bS ?_ GE472.out|refine bS ?_ GE473.out|refine bS ?_ GE482.out)|exact HB.out)) hb); clear HO477; clear HO480; clear BK472; clear BK473; clear BK482; clear HB; have HO477 := n0_; have HO480 := n1_; have BK472 := n2_; have BK473 := n3_; have BK482 := n4_; have HB := n5_; clear n0_ n1_ n2_ n3_ n4_ n5_; (try clear hb); (try clear hk); have hcz47_0 : w46.cell? ⟨gb472, 0, none⟩ = some (.slice A0_0 l0_0.length c0_0) := (blk_cell BK472.out 0).trans rfl; have hcz47_1 : w46.cell? ⟨gb472, 1, none⟩ = some (.slice A0_1 l0_1.length c0_1) := (blk_cell BK472.out 1).trans rfl; have hfz47_0 := blk_frozen BK472.out 0; have hfz47_1 := blk_frozen BK472.out 1; have hcz48_0 : w46.cell? ⟨gb473, 0, none⟩ = some (.slice A1_0 l1_0.length c1_0) := (blk_cell BK473.out 0).trans rfl; have hcz48_1 : w46.cell? ⟨gb473, 1, none⟩ = some (.slice A1_1 l1_1.length c1_1) := (blk_cell BK473.out 1).trans rfl; have hfz48_0 := blk_frozen BK473.out 0; have hfz48_1 := blk_frozen BK473.out 1) | (go_at_call 17; (with_reducible refine (athanorref03_Same.calls kj2 _ _ l0_0 _ _ l1_0 t485 _ ?side1 ?side2 ?side3 ?side4 A39.out).mono ?_); (case side1 => repeat (first|exact (Kd.C_below HR0_0.out HB.out) | with_reducible first|apply cA|apply cN|apply cD)); (case side2 => exact HC0_0.out); (case side3 => repeat (first|exact (Kd.C_below HR1_0.out HB.out) | with_reducible first|apply cA|apply cN|apply cD)); (case side4 => exact HC1_0.out); rintro e w' ⟨rfl, ⟨nd, rfl⟩⟩))
        go_meet
        case rel => exact ⟨_, (!t485), (by first | rfl | (simp; done) | (simp [*]; done)), H', ⟨by have := HJ2.out; first | omega|exact Nat.le_refl _⟩, ⟨by (with_reducible repeat (first|apply rA|apply rN|apply rD)); exact HO477.out⟩, ⟨by (with_reducible repeat (first|apply rA|apply rN|apply rD)); exact HO480.out⟩, ⟨by (with_reducible repeat (first|apply kN|apply kD|apply kA)); exact BK472.out⟩, ⟨by (with_reducible repeat (first|apply kN|apply kD|apply kA)); exact BK473.out⟩, ⟨by (with_reducible repeat (first|apply kN|apply kD|apply kA)); exact BK482.out⟩, ⟨by repeat (first | (with_reducible first|exact HB.out|apply bA|apply bN|apply bD|refine bS ?_ GE472.out|refine bS ?_ GE473.out|refine bS ?_ GE482.out)|exact HB.out)⟩⟩
      ·replace c38 := Bool.eq_false_iff.mpr c38
       subst c38
       have H1 : (athanorlaw06_DenseBias.j1 kj2 t481 true l0_0 l0_1 l1_0 l1_1 t475 t478) = some r := by rw [if_neg (show ¬ (false = true) by decide)] at H; exact H
       clear H
       have H := H1
       clear H1
       as_aux_lemma =>
        have H' := Aside0.mk H
        clear H
        have hnb49 := NB472_473.out
        have hnc49 := NB473_472.out
        have hnb50 := NB472_482.out
        have hnc50 := NB482_472.out
        have hcz51_0 : w29.cell? ⟨gb472, 0, none⟩ = some (.slice A0_0 l0_0.length c0_0) := (blk_cell BK472.out 0).trans rfl
        have hcz51_1 : w29.cell? ⟨gb472, 1, none⟩ = some (.slice A0_1 l0_1.length c0_1) := (blk_cell BK472.out 1).trans rfl
        have hfz51_0 := blk_frozen BK472.out 0
        have hfz51_1 := blk_frozen BK472.out 1
        go_wp2_with (first | ((with_reducible refine gate_callee (f := 16) rfl ?_); refine goesL_ (some 39) rfl rfl Try.func16 (by kernel_rfl) rfl #[.agg #[.slice A0_0 l0_0.length c0_0, .slice A0_1 l0_1.length c0_1]] rfl (by (try simp only [List.map_toArray, List.map_cons, List.map_nil]); first | done | rfl | (simp only [List.length_drop, List.length_take]; rfl)) ?_; (with_reducible refine (athanorlaw06_right.calls kj2 _ _ l0_0 _ _ l0_1 true _ ?side1 ?side2 ?side3 ?side4 A35.out).mono ?_); (case side1 => exact Kd.C_below HR0_0.out (by repeat (first | (with_reducible first|exact HB.out|apply bA|apply bN|apply bD|refine bS ?_ GE472.out|refine bS ?_ GE473.out|refine bS ?_ GE482.out)|exact HB.out))); (case side2 => exact HC0_0.out); (case side3 => exact Kd.C_below HR0_1.out (by repeat (first | (with_reducible first|exact HB.out|apply bA|apply bN|apply bD|refine bS ?_ GE472.out|refine bS ?_ GE473.out|refine bS ?_ GE482.out)|exact HB.out))); (case side4 => exact HC0_1.out); rintro e w52 ⟨rfl, hb⟩; refine ⟨_, rfl, ?_⟩; have n0_ := aM (Kd.R_below (by (with_reducible repeat (first|apply rA|apply rN|apply rD)); exact (Kd.R_mono (Kd.R_far (p := ⟨gb482, 1, none⟩) (Kd.R_far (p := ⟨gb482, 0, none⟩) (Kd.R_types HO477.out BK482.out (by decide)) (fun _ hk => hk.2) (.slice Ao30 t475.length co30)) (fun _ hk => hk.2) (.slice Ao34 t478.length co34)) (fun _ h_ => h_.1))) hb); have n1_ := aM (Kd.R_below (by (with_reducible repeat (first|apply rA|apply rN|apply rD)); exact (Kd.R_mono (Kd.R_far (p := ⟨gb482, 1, none⟩) (Kd.R_far (p := ⟨gb482, 0, none⟩) (Kd.R_types HO480.out BK482.out (by decide)) (fun _ hk => hk.2) (.slice Ao30 t475.length co30)) (fun _ hk => hk.2) (.slice Ao34 t478.length co34)) (fun _ h_ => h_.1))) hb); have n2_ := aM (blk_below (g := gb472) (o := .cells #[.slice A0_0 l0_0.length c0_0, .slice A0_1 l0_1.length c0_1] 26 (0, 0)) (by (with_reducible repeat (first|apply kN|apply kD|apply kA)); refine blk_far ?_ NB472_482.out _; (with_reducible repeat (first|apply kN|apply kD|apply kA)); refine blk_far ?_ NB472_482.out _; (with_reducible repeat (first|apply kN|apply kD|apply kA)); exact BK472.out) hb); have n3_ := aM (blk_below (g := gb473) (o := .cells #[.slice A1_0 l1_0.length c1_0, .slice A1_1 l1_1.length c1_1] 26 (0, 0)) (by (with_reducible repeat (first|apply kN|apply kD|apply kA)); refine blk_far ?_ NB473_482.out _; (with_reducible repeat (first|apply kN|apply kD|apply kA)); refine blk_far ?_ NB473_482.out _; (with_reducible repeat (first|apply kN|apply kD|apply kA)); exact BK473.out) hb); have n4_ := aM (blk_below (g := gb482) (o := .cells #[.slice Ao30 t475.length co30, .slice Ao34 t478.length co34] 26 (0, 0)) (by (with_reducible repeat (first|apply kN|apply kD|apply kA)); refine blk_put (cs := #[.slice Ao30 t475.length co30, .slice none 0 0]) ?_ 1 _ rfl; (with_reducible repeat (first|apply kN|apply kD|apply kA)); refine blk_put (cs := #[.slice none 0 0, .slice none 0 0]) ?_ 0 _ rfl; (with_reducible repeat (first|apply kN|apply kD|apply kA)); exact BK482.out) hb); have n5_ := aM (below_step (by repeat (first | (with_reducible first|exact HB.out|apply bA|apply bN|apply bD|refine bS ?_ GE472.out|refine bS ?_ GE473.out|refine bS ?_ GE482.out)|exact HB.out)) hb); clear HO477; clear HO480; clear BK472; clear BK473; clear BK482; clear HB; have HO477 := n0_; have HO480 := n1_; have BK472 := n2_; have BK473 := n3_; have BK482 := n4_; have HB := n5_; clear n0_ n1_ n2_ n3_ n4_ n5_; (try clear hb); (try clear hk); have hnb53 := NB473_482.out; have hnc53 := NB482_473.out; have hcz54_0 : w52.cell? ⟨gb473, 0, none⟩ = some (.slice A1_0 l1_0.length c1_0) := (blk_cell BK473.out 0).trans rfl; have hcz54_1 : w52.cell? ⟨gb473, 1, none⟩ = some (.slice A1_1 l1_1.length c1_1) := (blk_cell BK473.out 1).trans rfl; have hfz54_0 := blk_frozen BK473.out 0; have hfz54_1 := blk_frozen BK473.out 1) | (go_at_call 16; (with_reducible refine (athanorlaw06_right.calls kj2 _ _ l1_0 _ _ l1_1 false _ ?side1 ?side2 ?side3 ?side4 A37.out).mono ?_); (case side1 => repeat (first|exact (Kd.C_below HR1_0.out HB.out) | with_reducible first|apply cA|apply cN|apply cD)); (case side2 => exact HC1_0.out); (case side3 => repeat (first|exact (Kd.C_below HR1_1.out HB.out) | with_reducible first|apply cA|apply cN|apply cD)); (case side4 => exact HC1_1.out); rintro e w55 ⟨rfl, hb⟩; have n0_ := aM (Kd.R_below (by (with_reducible repeat (first|apply rA|apply rN|apply rD)); exact HO477.out) hb); have n1_ := aM (Kd.R_below (by (with_reducible repeat (first|apply rA|apply rN|apply rD)); exact HO480.out) hb); have n2_ := aM (blk_below (g := gb472) (o := .cells #[.slice A0_0 l0_0.length c0_0, .slice A0_1 l0_1.length c0_1] 26 (0, 0)) (by (with_reducible repeat (first|apply kN|apply kD|apply kA)); exact BK472.out) hb); have n3_ := aM (blk_below (g := gb473) (o := .cells #[.slice A1_0 l1_0.length c1_0, .slice A1_1 l1_1.length c1_1] 26 (0, 0)) (by (with_reducible repeat (first|apply kN|apply kD|apply kA)); exact BK473.out) hb); have n4_ := aM (blk_below (g := gb482) (o := .cells #[.slice Ao30 t475.length co30, .slice Ao34 t478.length co34] 26 (0, 0)) (by (with_reducible repeat (first|apply kN|apply kD|apply kA)); exact BK482.out) hb); have n5_ := aM (below_step (by repeat (first | (with_reducible first|exact HB.out|apply bA|apply bN|apply bD|refine bS ?_ GE472.out|refine bS ?_ GE473.out|refine bS ?_ GE482.out)|exact HB.out)) hb); clear HO477; clear HO480; clear BK472; clear BK473; clear BK482; clear HB; have HO477 := n0_; have HO480 := n1_; have BK472 := n2_; have BK473 := n3_; have BK482 := n4_; have HB := n5_; clear n0_ n1_ n2_ n3_ n4_ n5_; (try clear hb); (try clear hk)))
        go_meet
        case rel => exact ⟨_, (true), (by first | rfl | (simp; done) | (simp [*]; done)), H', ⟨by have := HJ2.out; first | omega|exact Nat.le_refl _⟩, ⟨by (with_reducible repeat (first|apply rA|apply rN|apply rD)); exact HO477.out⟩, ⟨by (with_reducible repeat (first|apply rA|apply rN|apply rD)); exact HO480.out⟩, ⟨by (with_reducible repeat (first|apply kN|apply kD|apply kA)); exact BK472.out⟩, ⟨by (with_reducible repeat (first|apply kN|apply kD|apply kA)); exact BK473.out⟩, ⟨by (with_reducible repeat (first|apply kN|apply kD|apply kA)); exact BK482.out⟩, ⟨by repeat (first | (with_reducible first|exact HB.out|apply bA|apply bN|apply bD|refine bS ?_ GE472.out|refine bS ?_ GE473.out|refine bS ?_ GE482.out)|exact HB.out)⟩⟩
     ·replace c36 := Bool.eq_false_iff.mpr c36
      subst c36
      have H1 : (athanorlaw06_DenseBias.j1 kj2 t481 true l0_0 l0_1 l1_0 l1_1 t475 t478) = some r := by rw [if_neg (show ¬ (false = true) by decide)] at H; exact H
      clear H
      have H := H1
      clear H1
      as_aux_lemma =>
       have H' := Aside0.mk H
       clear H
       have hnb56 := NB472_473.out
       have hnc56 := NB473_472.out
       have hnb57 := NB472_482.out
       have hnc57 := NB482_472.out
       have hcz58_0 : w29.cell? ⟨gb472, 0, none⟩ = some (.slice A0_0 l0_0.length c0_0) := (blk_cell BK472.out 0).trans rfl
       have hcz58_1 : w29.cell? ⟨gb472, 1, none⟩ = some (.slice A0_1 l0_1.length c0_1) := (blk_cell BK472.out 1).trans rfl
       have hfz58_0 := blk_frozen BK472.out 0
       have hfz58_1 := blk_frozen BK472.out 1
       go_wp2_with (first | ((with_reducible refine gate_callee (f := 16) rfl ?_); refine goesL_ (some 39) rfl rfl Try.func16 (by kernel_rfl) rfl #[.agg #[.slice A0_0 l0_0.length c0_0, .slice A0_1 l0_1.length c0_1]] rfl (by (try simp only [List.map_toArray, List.map_cons, List.map_nil]); first | done | rfl | (simp only [List.length_drop, List.length_take]; rfl)) ?_; (with_reducible refine (athanorlaw06_right.calls kj2 _ _ l0_0 _ _ l0_1 false _ ?side1 ?side2 ?side3 ?side4 A35.out).mono ?_); (case side1 => exact Kd.C_below HR0_0.out (by repeat (first | (with_reducible first|exact HB.out|apply bA|apply bN|apply bD|refine bS ?_ GE472.out|refine bS ?_ GE473.out|refine bS ?_ GE482.out)|exact HB.out))); (case side2 => exact HC0_0.out); (case side3 => exact Kd.C_below HR0_1.out (by repeat (first | (with_reducible first|exact HB.out|apply bA|apply bN|apply bD|refine bS ?_ GE472.out|refine bS ?_ GE473.out|refine bS ?_ GE482.out)|exact HB.out))); (case side4 => exact HC0_1.out); rintro e w59 ⟨rfl, hb⟩; refine ⟨_, rfl, ?_⟩; have n0_ := aM (Kd.R_below (by (with_reducible repeat (first|apply rA|apply rN|apply rD)); exact (Kd.R_mono (Kd.R_far (p := ⟨gb482, 1, none⟩) (Kd.R_far (p := ⟨gb482, 0, none⟩) (Kd.R_types HO477.out BK482.out (by decide)) (fun _ hk => hk.2) (.slice Ao30 t475.length co30)) (fun _ hk => hk.2) (.slice Ao34 t478.length co34)) (fun _ h_ => h_.1))) hb); have n1_ := aM (Kd.R_below (by (with_reducible repeat (first|apply rA|apply rN|apply rD)); exact (Kd.R_mono (Kd.R_far (p := ⟨gb482, 1, none⟩) (Kd.R_far (p := ⟨gb482, 0, none⟩) (Kd.R_types HO480.out BK482.out (by decide)) (fun _ hk => hk.2) (.slice Ao30 t475.length co30)) (fun _ hk => hk.2) (.slice Ao34 t478.length co34)) (fun _ h_ => h_.1))) hb); have n2_ := aM (blk_below (g := gb472) (o := .cells #[.slice A0_0 l0_0.length c0_0, .slice A0_1 l0_1.length c0_1] 26 (0, 0)) (by (with_reducible repeat (first|apply kN|apply kD|apply kA)); refine blk_far ?_ NB472_482.out _; (with_reducible repeat (first|apply kN|apply kD|apply kA)); refine blk_far ?_ NB472_482.out _; (with_reducible repeat (first|apply kN|apply kD|apply kA)); exact BK472.out) hb); have n3_ := aM (blk_below (g := gb473) (o := .cells #[.slice A1_0 l1_0.length c1_0, .slice A1_1 l1_1.length c1_1] 26 (0, 0)) (by (with_reducible repeat (first|apply kN|apply kD|apply kA)); refine blk_far ?_ NB473_482.out _; (with_reducible repeat (first|apply kN|apply kD|apply kA)); refine blk_far ?_ NB473_482.out _; (with_reducible repeat (first|apply kN|apply kD|apply kA)); exact BK473.out) hb); have n4_ := aM (blk_below (g := gb482) (o := .cells #[.slice Ao30 t475.length co30, .slice Ao34 t478.length co34] 26 (0, 0)) (by (with_reducible repeat (first|apply kN|apply kD|apply kA)); refine blk_put (cs := #[.slice Ao30 t475.length co30, .slice none 0 0]) ?_ 1 _ rfl; (with_reducible repeat (first|apply kN|apply kD|apply kA)); refine blk_put (cs := #[.slice none 0 0, .slice none 0 0]) ?_ 0 _ rfl; (with_reducible repeat (first|apply kN|apply kD|apply kA)); exact BK482.out) hb); have n5_ := aM (below_step (by repeat (first | (with_reducible first|exact HB.out|apply bA|apply bN|apply bD|refine bS ?_ GE472.out|refine bS ?_ GE473.out|refine bS ?_ GE482.out)|exact HB.out)) hb); clear HO477; clear HO480; clear BK472; clear BK473; clear BK482; clear HB; have HO477 := n0_; have HO480 := n1_; have BK472 := n2_; have BK473 := n3_; have BK482 := n4_; have HB := n5_; clear n0_ n1_ n2_ n3_ n4_ n5_; (try clear hb); (try clear hk)))
       go_meet
       case rel => exact ⟨_, (true), (by first | rfl | (simp; done) | (simp [*]; done)), H', ⟨by have := HJ2.out; first | omega|exact Nat.le_refl _⟩, ⟨by (with_reducible repeat (first|apply rA|apply rN|apply rD)); exact HO477.out⟩, ⟨by (with_reducible repeat (first|apply rA|apply rN|apply rD)); exact HO480.out⟩, ⟨by (with_reducible repeat (first|apply kN|apply kD|apply kA)); exact BK472.out⟩, ⟨by (with_reducible repeat (first|apply kN|apply kD|apply kA)); exact BK473.out⟩, ⟨by (with_reducible repeat (first|apply kN|apply kD|apply kA)); exact BK482.out⟩, ⟨by repeat (first | (with_reducible first|exact HB.out|apply bA|apply bN|apply bD|refine bS ?_ GE472.out|refine bS ?_ GE473.out|refine bS ?_ GE482.out)|exact HB.out)⟩⟩
    case rest =>
     clear HC24
     (try clear c6); (try clear c6b0); (try clear c6b1); (try clear c9); (try clear c9b0); (try clear c9b1); (try clear c13); (try clear c13b0); (try clear c13b1); (try clear c20); (try clear c36); (try clear c38); (try clear hcz11_0); (try clear hcz11_1); (try clear hcz12_0); (try clear hcz12_1); (try clear hcz15_0); (try clear hcz15_1); (try clear hcz16_0); (try clear hcz16_1); (try clear hcz18_0); (try clear hcz18_1); (try clear hcz19_0); (try clear hcz19_1); (try clear hcz26_0); (try clear hcz26_1); (try clear hcz27_0); (try clear hcz27_1); (try clear hcz33_0); (try clear hcz33_1); (try clear hcz42_0); (try clear hcz42_1); (try clear hcz45_0); (try clear hcz45_1); (try clear hcz47_0); (try clear hcz47_1); (try clear hcz48_0); (try clear hcz48_1); (try clear hcz51_0); (try clear hcz51_1); (try clear hcz54_0); (try clear hcz54_1); (try clear hcz58_0); (try clear hcz58_1); (try clear hcz8_0); (try clear hcz8_1); (try clear hfz11_0); (try clear hfz11_1); (try clear hfz12_0); (try clear hfz12_1); (try clear hfz15_0); (try clear hfz15_1); (try clear hfz16_0); (try clear hfz16_1); (try clear hfz18_0); (try clear hfz18_1); (try clear hfz19_0); (try clear hfz19_1); (try clear hfz26_0); (try clear hfz26_1); (try clear hfz27_0); (try clear hfz27_1); (try clear hfz33_0); (try clear hfz33_1); (try clear hfz42_0); (try clear hfz42_1); (try clear hfz45_0); (try clear hfz45_1); (try clear hfz47_0); (try clear hfz47_1); (try clear hfz48_0); (try clear hfz48_1); (try clear hfz51_0); (try clear hfz51_1); (try clear hfz54_0); (try clear hfz54_1); (try clear hfz58_0); (try clear hfz58_1); (try clear hfz8_0); (try clear hfz8_1)
     obtain ⟨kq, x53_23, rfl, HA, HJ23, HO_483000, HO_483001, BK472, BK473, BK482, HB⟩ := hcut
     cases kq with
     | zero => exact absurd HA.out (by simp [athanorlaw06_DenseBias.j1])
     | succ kj23 =>
      have H := HA.out
      clear HA
      simp only [athanorlaw06_DenseBias.j1] at H
      by_cases c60 : x53_23 = true
      ·subst c60
       have H1 : (if t481 = 20 then (if (t478.length : Int) = 0 then ((athanorlaw06_awake.f).bind fun t486 => (some t486)) else (none)) else (none)) = some r := by rw [if_pos rfl] at H; exact H
       clear H
       have H := H1
       clear H1
       by_cases c61 : t481 = 20
       ·rw [if_pos c61] at H
        have c61b0 : (t481 == 20) = true := beq_iff_eq.mpr c61
        have c61b1 : (t481 != 20) = false := bne_eq_false_iff_eq.mpr c61
        clear c61
        by_cases c62 : (t478.length : Int) = 0
        ·rw [if_pos c62] at H
         have c62b0 : ((t478.length : Int) == 0) = true := beq_iff_eq.mpr c62
         have c62b1 : ((t478.length : Int) != 0) = false := bne_eq_false_iff_eq.mpr c62
         clear c62
         replace H := Option.bind_eq_some_iff.mp H
         obtain ⟨t486, A630, H⟩ := H
         replace H : (some t486) = some r := H
         have A63 := Aside0.mk A630
         clear A630
         as_aux_lemma =>
          obtain rfl := Option.some.inj H
          have hnb64 := NB482_472.out
          have hnc64 := NB472_482.out
          have hnb65 := NB482_473.out
          have hnc65 := NB473_482.out
          have hcz66_0 : wc.cell? ⟨gb482, 0, none⟩ = some (.slice Ao30 t475.length co30) := (blk_cell BK482.out 0).trans rfl
          have hcz66_1 : wc.cell? ⟨gb482, 1, none⟩ = some (.slice Ao34 t478.length co34) := (blk_cell BK482.out 1).trans rfl
          have hfz66_0 := blk_frozen BK482.out 0
          have hfz66_1 := blk_frozen BK482.out 1
          go_wp2_with (first | (go_at_call 9; (with_reducible refine (athanorlaw06_awake.calls  t486 _ A63.out).mono ?_); rintro e w67 ⟨rfl, hb⟩; have n0_ := aM (Kd.R_below (by (with_reducible repeat (first|apply rA|apply rN|apply rD)); exact HO_483000.out) hb); have n1_ := aM (Kd.R_below (by (with_reducible repeat (first|apply rA|apply rN|apply rD)); exact HO_483001.out) hb); have n2_ := aM (blk_below (g := gb472) (o := .cells #[.slice A0_0 l0_0.length c0_0, .slice A0_1 l0_1.length c0_1] 26 (0, 0)) (by (with_reducible repeat (first|apply kN|apply kD|apply kA)); exact BK472.out) hb); have n3_ := aM (blk_below (g := gb473) (o := .cells #[.slice A1_0 l1_0.length c1_0, .slice A1_1 l1_1.length c1_1] 26 (0, 0)) (by (with_reducible repeat (first|apply kN|apply kD|apply kA)); exact BK473.out) hb); have n4_ := aM (blk_below (g := gb482) (o := .cells #[.slice Ao30 t475.length co30, .slice Ao34 t478.length co34] 26 (0, 0)) (by (with_reducible repeat (first|apply kN|apply kD|apply kA)); exact BK482.out) hb); have n5_ := aM (below_step (by repeat (first | (with_reducible first|exact HB.out|apply bA|apply bN|apply bD|refine bS ?_ GE472.out|refine bS ?_ GE473.out|refine bS ?_ GE482.out)|exact HB.out)) hb); clear HO_483000; clear HO_483001; clear BK472; clear BK473; clear BK482; clear HB; have HO_483000 := n0_; have HO_483001 := n1_; have BK472 := n2_; have BK473 := n3_; have BK482 := n4_; have HB := n5_; clear n0_ n1_ n2_ n3_ n4_ n5_; (try clear hb)))
          go_ret
          exact ⟨by first | rfl | (simp [errW_none, errW_some] <;> rfl) | (simp [*, errW_none, errW_some] <;> rfl), by repeat (first | (with_reducible first|exact HB.out|apply bA|apply bN|apply bD|refine bS ?_ GE472.out|refine bS ?_ GE473.out|refine bS ?_ GE482.out)|exact HB.out)⟩
        ·rw [if_neg c62] at H
         exact absurd H (by simp)
       ·rw [if_neg c61] at H
        exact absurd H (by simp)
      ·replace c60 := Bool.eq_false_iff.mpr c60
       subst c60
       have H1 : (athanorlaw06_DenseBias.l0 kj23 t481 ([] : List Int) (l0_1.length : Int) 0 l0_0 l0_1 l1_0 l1_1 t475 t478) = some r := by rw [if_neg (show ¬ (false = true) by decide)] at H; exact H
       clear H
       have H := H1
       clear H1
       have H' := Aside0.mk H
       clear H
       have hnb68 := NB472_473.out
       have hnc68 := NB473_472.out
       have hnb69 := NB472_482.out
       have hnc69 := NB482_472.out
       have hcz70_0 : wc.cell? ⟨gb472, 0, none⟩ = some (.slice A0_0 l0_0.length c0_0) := (blk_cell BK472.out 0).trans rfl
       have hcz70_1 : wc.cell? ⟨gb472, 1, none⟩ = some (.slice A0_1 l0_1.length c0_1) := (blk_cell BK472.out 1).trans rfl
       have hfz70_0 := blk_frozen BK472.out 0
       have hfz70_1 := blk_frozen BK472.out 1
       go_wp2
       go_loopg [7, 68] kj23 (fun kq v7 v68 w' => ∃ (x7_3 : List Int) (x68_3 : Int), v68 = .int .i64 x68_3 ∧ Aside0 (athanorlaw06_DenseBias.l0 kq t481 x7_3 (l0_1.length : Int) x68_3 l0_0 l0_1 l1_0 l1_1 t475 t478 = some r) ∧ Aside0 (kq ≤ kj23) ∧ Aside0 (Kd.R (Kd.int .i64) 2 w' w.heap.size (fun _ => True) v7 x7_3) ∧ Aside0 (Kd.R (Kd.int .i64) 3 w' w.heap.size (fun _ => True) (.slice Ao30 t475.length co30) t475) ∧ Aside0 (Kd.R (Kd.int .i64) 47 w' w.heap.size (fun _ => True) (.slice Ao34 t478.length co34) t478) ∧ Aside0 (w'.heap[gb472]? = some (.cells #[(.slice A0_0 l0_0.length c0_0), (.slice A0_1 l0_1.length c0_1)] 26 (0, 0))) ∧ Aside0 (w'.heap[gb473]? = some (.cells #[(.slice A1_0 l1_0.length c1_0), (.slice A1_1 l1_1.length c1_1)] 26 (0, 0))) ∧ Aside0 (w'.heap[gb482]? = some (.cells #[(.slice Ao30 t475.length co30), (.slice Ao34 t478.length co34)] 26 (0, 0))) ∧ Aside0 (Below w.heap.size w w'))
       case atStart => exact ⟨(([] : List Int)), (0), (by first | rfl | (simp; done) | (simp [*]; done)), H', ⟨Nat.le_refl _⟩, ⟨by first|exact Kd.R_nil _ _ _ _ _|exact Kd.N_nil _ _ _ _ _|exact Kd.V_nil _ _ _ _ _|exact Kd.Q_nil _ _ _ _ _|exact Kd.S_nil _ _ _ _ _⟩, ⟨by (with_reducible repeat (first|apply rA|apply rN|apply rD)); exact HO_483000.out⟩, ⟨by (with_reducible repeat (first|apply rA|apply rN|apply rD)); exact HO_483001.out⟩, ⟨by (with_reducible repeat (first|apply kN|apply kD|apply kA)); exact BK472.out⟩, ⟨by (with_reducible repeat (first|apply kN|apply kD|apply kA)); exact BK473.out⟩, ⟨by (with_reducible repeat (first|apply kN|apply kD|apply kA)); exact BK482.out⟩, ⟨by repeat (first | (with_reducible first|exact HB.out|apply bA|apply bN|apply bD|refine bS ?_ GE472.out|refine bS ?_ GE473.out|refine bS ?_ GE482.out)|exact HB.out)⟩⟩
       case round =>
        clear H'
        (try clear c6); (try clear c6b0); (try clear c6b1); (try clear c9); (try clear c9b0); (try clear c9b1); (try clear c13); (try clear c13b0); (try clear c13b1); (try clear c20); (try clear c36); (try clear c38); (try clear c60); (try clear c61); (try clear c61b0); (try clear c61b1); (try clear c62); (try clear c62b0); (try clear c62b1); (try clear hcz11_0); (try clear hcz11_1); (try clear hcz12_0); (try clear hcz12_1); (try clear hcz15_0); (try clear hcz15_1); (try clear hcz16_0); (try clear hcz16_1); (try clear hcz18_0); (try clear hcz18_1); (try clear hcz19_0); (try clear hcz19_1); (try clear hcz26_0); (try clear hcz26_1); (try clear hcz27_0); (try clear hcz27_1); (try clear hcz33_0); (try clear hcz33_1); (try clear hcz42_0); (try clear hcz42_1); (try clear hcz45_0); (try clear hcz45_1); (try clear hcz47_0); (try clear hcz47_1); (try clear hcz48_0); (try clear hcz48_1); (try clear hcz51_0); (try clear hcz51_1); (try clear hcz54_0); (try clear hcz54_1); (try clear hcz58_0); (try clear hcz58_1); (try clear hcz66_0); (try clear hcz66_1); (try clear hcz70_0); (try clear hcz70_1); (try clear hcz8_0); (try clear hcz8_1); (try clear hfz11_0); (try clear hfz11_1); (try clear hfz12_0); (try clear hfz12_1); (try clear hfz15_0); (try clear hfz15_1); (try clear hfz16_0); (try clear hfz16_1); (try clear hfz18_0); (try clear hfz18_1); (try clear hfz19_0); (try clear hfz19_1); (try clear hfz26_0); (try clear hfz26_1); (try clear hfz27_0); (try clear hfz27_1); (try clear hfz33_0); (try clear hfz33_1); (try clear hfz42_0); (try clear hfz42_1); (try clear hfz45_0); (try clear hfz45_1); (try clear hfz47_0); (try clear hfz47_1); (try clear hfz48_0); (try clear hfz48_1); (try clear hfz51_0); (try clear hfz51_1); (try clear hfz54_0); (try clear hfz54_1); (try clear hfz58_0); (try clear hfz58_1); (try clear hfz66_0); (try clear hfz66_1); (try clear hfz70_0); (try clear hfz70_1); (try clear hfz8_0); (try clear hfz8_1)
        obtain ⟨x7_3, x68_3, rfl, HA, HK3, HO_7, HO_483000, HO_483001, BK472, BK473, BK482, HB⟩ := hrel
        cases gk with
        | zero => exact absurd HA.out (by simp [athanorlaw06_DenseBias.l0])
        | succ k3 =>
         have H := HA.out
         clear HA
         simp only [athanorlaw06_DenseBias.l0] at H
         by_cases c71 : x68_3 < (l0_1.length : Int)
         ·rw [if_pos c71] at H
          have c71b0 : decide (x68_3 < (l0_1.length : Int)) = true := decide_eq_true c71
          clear c71
          by_cases c72 : 0 ≤ x68_3
          ·rw [if_pos c72] at H
           have c72b0 : decide (0 ≤ x68_3) = true := decide_eq_true c72
           clear c72
           by_cases c73 : x68_3 < (l1_1.length : Int)
           ·rw [if_pos c73] at H
            have c73b0 : decide (x68_3 < (l1_1.length : Int)) = true := decide_eq_true c73
            clear c73
            by_cases c74 : x68_3 < (l0_1.length : Int)
            ·rw [if_pos c74] at H
             have c74b0 : decide (x68_3 < (l0_1.length : Int)) = true := decide_eq_true c74
             clear c74
             replace H := Option.bind_eq_some_iff.mp H
             obtain ⟨t489, A750, H⟩ := H
             replace H : (if x7_3.length < 17592186044416 then (athanorlaw06_DenseBias.l0 k3 t481 (x7_3 ++ [t489]) (l0_1.length : Int) (wrap64 (x68_3 + 1)) l0_0 l0_1 l1_0 l1_1 t475 t478) else (none)) = some r := H
             have A75 := Aside0.mk A750
             clear A750
             by_cases c76 : x7_3.length < 17592186044416
             ·rw [if_pos c76] at H
              have LMc76 := Aside0.mk c76
              clear c76
              obtain ⟨y490, hy490⟩ : ∃ y_ : List Int, y_ = (x7_3 ++ [t489]) := ⟨_, rfl⟩
              replace H : (athanorlaw06_DenseBias.l0 k3 t481 y490 (l0_1.length : Int) (wrap64 (x68_3 + 1)) l0_0 l0_1 l1_0 l1_1 t475 t478) = some r := by first | (rw [hy490]; with_reducible exact H) | (have H2_ := (Option.bind_some _ _).symm.trans H; rw [hy490]; with_reducible exact H2_) | (have H2_ := (Option.bind_some _ _).symm.trans H; with_reducible exact H2_) | with_reducible exact H | (rw [hy490]; exact H)|exact H
              have Ny490 := Aside0.mk hy490
              clear hy490
              as_aux_lemma =>
               have H' := Aside0.mk H
               clear H
               try go_wp2
               have n0_ := aM (Kd.R_drew HO_7.out)
               have n1_ := aM (Kd.R_drew HO_483000.out)
               have n2_ := aM (Kd.R_drew HO_483001.out)
               have n3_ := aM (blk_drew BK472.out)
               have n4_ := aM (blk_drew BK473.out)
               have n5_ := aM (blk_drew BK482.out)
               have n6_ := aM (below_drew1 HB.out)
               clear HO_7
               clear HO_483000
               clear HO_483001
               clear BK472
               clear BK473
               clear BK482
               clear HB
               have HO_7 := n0_
               have HO_483000 := n1_
               have HO_483001 := n2_
               have BK472 := n3_
               have BK473 := n4_
               have BK482 := n5_
               have HB := n6_
               clear n0_ n1_ n2_ n3_ n4_ n5_ n6_
               have p487 : 0 ≤ (x68_3 : Int) := of_decide_eq_true (by first | (with_reducible assumption) | assumption)
               have q487 : x68_3 < (l1_1.length : Int) := of_decide_eq_true (by first | (with_reducible assumption) | assumption)
               obtain ⟨ad487, e487, hx487_0⟩ := Kd.at_int HR1_1.out x68_3 p487 q487
               have hw487_0 := hx487_0
               cases e487
               replace hx487_0 := (HB.out.cell (World.block_lt_of_cell? w _ hx487_0)).trans hx487_0
               replace p487 := eq_true p487
               replace q487 := eq_true q487
               have p488 : 0 ≤ (x68_3 : Int) := of_decide_eq_true (by first | (with_reducible assumption) | assumption)
               have q488 : x68_3 < (l0_1.length : Int) := of_decide_eq_true (by first | (with_reducible assumption) | assumption)
               obtain ⟨ad488, e488, hx488_0⟩ := Kd.at_int HR0_1.out x68_3 p488 q488
               have hw488_0 := hx488_0
               cases e488
               replace hx488_0 := (HB.out.cell (World.block_lt_of_cell? w _ hx488_0)).trans hx488_0
               replace p488 := eq_true p488
               replace q488 := eq_true q488
               refine start_ (n := 15) (S := fun w' => w'.cell? ⟨gb473, 0, none⟩ = some (.slice A1_0 l1_0.length c1_0) ∧ w'.cell? ⟨gb473, 1, none⟩ = some (.slice (some ad487) l1_1.length c1_1) ∧ w'.cell? ⟨gb472, 0, none⟩ = some (.slice A0_0 l0_0.length c0_0) ∧ w'.cell? ⟨gb472, 1, none⟩ = some (.slice (some ad488) l0_1.length c0_1) ∧ w'.cell? (ad487.add (x68_3).toNat) = some (.int .i64 (rd l1_1 x68_3)) ∧ w'.cell? (ad488.add (x68_3).toNat) = some (.int .i64 (rd l0_1 x68_3))) (ds := []) #[false, false, false, false, false, false, false, false, false, false, false, false, false, false, false] (by kernel_rfl) rfl rfl ⟨(blk_cell BK473.out 0).trans rfl, (blk_cell BK473.out 1).trans rfl, (blk_cell BK472.out 0).trans rfl, (blk_cell BK472.out 1).trans rfl, ((HB.out.cell (World.block_lt_of_cell? w _ hw487_0)).trans hw487_0), ((HB.out.cell (World.block_lt_of_cell? w _ hw488_0)).trans hw488_0)⟩ (fun hHeld => ?_); refine with_tabW athanorlaw06_DenseBias.tab10 athanorlaw06_DenseBias.bits10 (fun HT_ HW_ => ?_)
               generalize wr.drew = w77 at HO_7 HO_483000 HO_483001 BK472 BK473 BK482 HB hx487_0 hx488_0 hHeld ⊢
               refine pure_ (i := 0) (N := some 71) (v := ?_) (a' := ?_) #[true, false, false, false, false, false, false, false, false, false, false, false, false, false, false] rfl rfl (any_of HT_.out (by kernel_rfl)) (fun _ _ _ h => h) (Or.inl ⟨by rfl, ?_⟩) ?_ ?_
               rotate_left
               ·intro w'
                go_simp
                with_reducible rfl
               rotate_left
               ·simp only [Act.put, List.setIfInBounds_toArray, List.set_cons_zero, List.set_cons_succ, i64_w, i32_w]
                rfl
               refine pure_ (i := 1) (N := some 72) (v := ?_) (a' := ?_) #[true, true, false, false, false, false, false, false, false, false, false, false, false, false, false] rfl rfl (any_of HT_.out (by kernel_rfl)) (fun _ _ _ h => h) (Or.inl ⟨by rfl, ?_⟩) ?_ ?_
               rotate_left
               ·intro w'
                go_simp
                with_reducible rfl
               rotate_left
               ·simp only [Act.put, List.setIfInBounds_toArray, List.set_cons_zero, List.set_cons_succ, i64_w, i32_w]
                rfl
               refine pure_ (i := 3) (N := some 74) (v := ?_) (a' := ?_) #[true, true, false, true, false, false, false, false, false, false, false, false, false, false, false] rfl rfl (any_of HT_.out (by kernel_rfl)) (fun _ _ _ h => h) (Or.inl ⟨by rfl, ?_⟩) ?_ ?_
               rotate_left
               ·intro w'
                go_simp
                with_reducible rfl
               rotate_left
               ·simp only [Act.put, List.setIfInBounds_toArray, List.set_cons_zero, List.set_cons_succ, i64_w, i32_w]
                rfl
               refine pure_ (i := 6) (N := some 77) (v := ?_) (a' := ?_) #[true, true, false, true, false, false, true, false, false, false, false, false, false, false, false] rfl rfl (any_of HT_.out (by kernel_rfl)) (fun _ _ _ h => h) (Or.inl ⟨by rfl, ?_⟩) ?_ ?_
               rotate_left
               ·intro w'
                go_simp
                with_reducible rfl
               rotate_left
               ·simp only [Act.put, List.setIfInBounds_toArray, List.set_cons_zero, List.set_cons_succ, i64_w, i32_w]
                rfl
               refine pure_ (i := 8) (N := some 79) (v := ?_) (a' := ?_) #[true, true, false, true, false, false, true, false, true, false, false, false, false, false, false] rfl rfl (any_of HT_.out (by kernel_rfl)) (fun _ _ _ h => h) (Or.inl ⟨by rfl, ?_⟩) ?_ ?_
               rotate_left
               ·intro w'
                go_simp
                with_reducible rfl
               rotate_left
               ·simp only [Act.put, List.setIfInBounds_toArray, List.set_cons_zero, List.set_cons_succ, i64_w, i32_w]
                rfl
               refine take_ (i := 2) (N := some 73) (v := ?_) (a' := ?_) #[true, true, true, true, false, false, true, false, true, false, false, false, false, false, false] rfl rfl (take_ofW HT_.out HW_.out (by kernel_rfl)) (fun _ _ _ h => h) (Or.inl ⟨by rfl, ?_⟩) hHeld ?_ ?_
               rotate_left
               ·rintro w' ⟨s0, s1, s2, s3, s4, s5⟩
                go_simp
                with_reducible rfl
               rotate_left
               ·simp only [Act.put, List.setIfInBounds_toArray, List.set_cons_zero, List.set_cons_succ, i64_w, i32_w]
                rfl
               refine pure_ (i := 4) (N := some 75) (v := ?_) (a' := ?_) #[true, true, true, true, true, false, true, false, true, false, false, false, false, false, false] rfl rfl (any_of HT_.out (by kernel_rfl)) (fun _ _ _ h => h) (Or.inl ⟨by rfl, ?_⟩) ?_ ?_
               rotate_left
               ·intro w'
                go_simp
                with_reducible rfl
               rotate_left
               ·simp only [Act.put, List.setIfInBounds_toArray, List.set_cons_zero, List.set_cons_succ, i64_w, i32_w]
                rfl
               refine take_ (i := 5) (N := some 76) (v := ?_) (a' := ?_) #[true, true, true, true, true, true, true, false, true, false, false, false, false, false, false] rfl rfl (take_ofW HT_.out HW_.out (by kernel_rfl)) (fun _ _ _ h => h) (Or.inl ⟨by rfl, ?_⟩) hHeld ?_ ?_
               rotate_left
               ·rintro w' ⟨s0, s1, s2, s3, s4, s5⟩
                go_simp
                with_reducible rfl
               rotate_left
               ·simp only [Act.put, List.setIfInBounds_toArray, List.set_cons_zero, List.set_cons_succ, i64_w, i32_w]
                rfl
               refine take_ (i := 7) (N := some 78) (v := ?_) (a' := ?_) #[true, true, true, true, true, true, true, true, true, false, false, false, false, false, false] rfl rfl (take_ofW HT_.out HW_.out (by kernel_rfl)) (fun _ _ _ h => h) (Or.inl ⟨by rfl, ?_⟩) hHeld ?_ ?_
               rotate_left
               ·rintro w' ⟨s0, s1, s2, s3, s4, s5⟩
                go_simp
                with_reducible rfl
               rotate_left
               ·simp only [Act.put, List.setIfInBounds_toArray, List.set_cons_zero, List.set_cons_succ, i64_w, i32_w]
                rfl
               refine pure_ (i := 9) (N := some 80) (v := ?_) (a' := ?_) #[true, true, true, true, true, true, true, true, true, true, false, false, false, false, false] rfl rfl (any_of HT_.out (by kernel_rfl)) (fun _ _ _ h => h) (Or.inl ⟨by rfl, ?_⟩) ?_ ?_
               rotate_left
               ·intro w'
                go_simp
                with_reducible rfl
               rotate_left
               ·simp only [Act.put, List.setIfInBounds_toArray, List.set_cons_zero, List.set_cons_succ, i64_w, i32_w]
                rfl
               refine take_ (i := 10) (N := some 81) (v := ?_) (a' := ?_) #[true, true, true, true, true, true, true, true, true, true, true, false, false, false, false] rfl rfl (take_ofW HT_.out HW_.out (by kernel_rfl)) (fun _ _ _ h => h) (Or.inl ⟨by rfl, ?_⟩) hHeld ?_ ?_
               rotate_left
               ·rintro w' ⟨s0, s1, s2, s3, s4, s5⟩
                go_simp
                with_reducible rfl
               rotate_left
               ·simp only [Act.put, List.setIfInBounds_toArray, List.set_cons_zero, List.set_cons_succ, i64_w, i32_w]
                rfl
               refine one_ (i := 11) (N := some 82) #[true, true, true, true, true, true, true, true, true, true, true, true, false, false, false] rfl rfl (one_of HT_.out (by kernel_rfl)) (by decide) (fun K hK => ?_)
               refine goes_ Try.func23 (by kernel_rfl) rfl #[.int .i64 (rd l1_1 x68_3), .int .i64 (rd l0_1 x68_3)] (by rfl) rfl rfl (by (try simp only [List.map_toArray, List.map_cons, List.map_nil]); first | done | rfl | (simp only [List.length_drop, List.length_take]; rfl)) ?_
               with_reducible refine (athanorref01_Add.calls k3 (rd l1_1 x68_3) (rd l0_1 x68_3) t489 _ A75.out).mono ?_
               rintro e w' ⟨rfl, ⟨nd, rfl⟩⟩
               refine ⟨_, rfl, ?_⟩
               refine hK.out _ _ ⟨(blk_cell BK473.out 0).trans rfl, (blk_cell BK473.out 1).trans rfl, (blk_cell BK472.out 0).trans rfl, (blk_cell BK472.out 1).trans rfl, ((HB.out.cell (World.block_lt_of_cell? w _ hw487_0)).trans hw487_0), ((HB.out.cell (World.block_lt_of_cell? w _ hw488_0)).trans hw488_0)⟩ (fun hHeld => ?_)
               clear hK K
               refine norm_ (a' := ?_) ?_ ?_
               rotate_left
               ·show Act.put _ (some 82) _ = _
                simp only [Act.put, List.setIfInBounds_toArray, List.set_cons_zero, List.set_cons_succ, i64_w, i32_w]
                rfl
               refine one_ (i := 12) (N := some 83) #[true, true, true, true, true, true, true, true, true, true, true, true, true, false, false] rfl rfl (one_of HT_.out (by kernel_rfl)) (by decide) (fun K hK => ?_)
               refine value_ (w1 := ?_) (v := ?_) (by rfl) rfl ?_ ?_
               rotate_left 2
               ·go_simp
                constructor
                ·rfl
                ·rfl
               refine hK.out _ _ ⟨(blk_cell (blk_alloc BK473.out _) 0).trans rfl, (blk_cell (blk_alloc BK473.out _) 1).trans rfl, (blk_cell (blk_alloc BK472.out _) 0).trans rfl, (blk_cell (blk_alloc BK472.out _) 1).trans rfl, (World.cell?_alloc_lt _ _ _ (World.block_lt_of_cell? _ _ (((HB.out.cell (World.block_lt_of_cell? w _ hw487_0)).trans hw487_0)))).trans (((HB.out.cell (World.block_lt_of_cell? w _ hw487_0)).trans hw487_0)), (World.cell?_alloc_lt _ _ _ (World.block_lt_of_cell? _ _ (((HB.out.cell (World.block_lt_of_cell? w _ hw488_0)).trans hw488_0)))).trans (((HB.out.cell (World.block_lt_of_cell? w _ hw488_0)).trans hw488_0))⟩ (fun hHeld => ?_)
               clear hK K
               refine norm_ (a' := ?_) ?_ ?_
               rotate_left
               ·show Act.put _ (some 83) _ = _
                simp only [Act.put, List.setIfInBounds_toArray, List.set_cons_zero, List.set_cons_succ, i64_w, i32_w]
                rfl
               refine one_ (i := 13) (N := some 84) #[true, true, true, true, true, true, true, true, true, true, true, true, true, true, false] rfl rfl (one_of HT_.out (by kernel_rfl)) (by decide) (fun K hK => ?_)
               refine Kd.R_append_step (Kd.int .i64) (w0 := w) w.heap.size (by rfl) (.tmp 71) (.tmp 83) 35 2 (.int .i64 0) 8 rfl Try.underlying35 info2 rfl (by decide) (by omega) u7 x7_3 t489 [.int .i64 t489] (fun _ => True) (fun _ => False) rfl rfl ?aP (fun _ hk => hk.elim) ?aF ?aO ?aB ?aS ?aL ?_
               (case aP => exact rfl)
               (case aB => exact (by repeat (first | (with_reducible first|exact HB.out|apply bA|apply bN|apply bD|refine bS ?_ GE472.out|refine bS ?_ GE473.out|refine bS ?_ GE482.out)|exact HB.out)))
               (case aF => exact (fun _ _ => trivial))
               (case aO => exact (by (with_reducible repeat (first|apply rA|apply rN|apply rD)); exact HO_7.out))
               (case aS => exact (below_size (by repeat (first | (with_reducible first|exact HB.out|apply bA|apply bN|apply bD|refine bS ?_ GE472.out|refine bS ?_ GE473.out|refine bS ?_ GE482.out)|exact HB.out))))
               (case aL => have := LMc76.out; omega)
               intro v491 w78 ho hb hg hat
               rw [← Ny490.out] at ho
               have n0_ := aM (Kd.R_over' (by (with_reducible repeat (first|apply rA|apply rN|apply rD)); exact HO_483000.out) (Kd.R_typed (by (with_reducible repeat (first|apply rA|apply rN|apply rD)); exact HO_7.out)) (by decide) hg)
               have n1_ := aM (Kd.R_over' (by (with_reducible repeat (first|apply rA|apply rN|apply rD)); exact HO_483001.out) (Kd.R_typed (by (with_reducible repeat (first|apply rA|apply rN|apply rD)); exact HO_7.out)) (by decide) hg)
               have n2_ := aM (blk_grown (g := gb472) (o := .cells #[.slice A0_0 l0_0.length c0_0, .slice (some ad488) l0_1.length c0_1] 26 (0, 0)) (by (with_reducible repeat (first|apply kN|apply kD|apply kA)); exact BK472.out) hg (Kd.R_ne HO_7.out BK472.out (by decide)))
               have n3_ := aM (blk_grown (g := gb473) (o := .cells #[.slice A1_0 l1_0.length c1_0, .slice (some ad487) l1_1.length c1_1] 26 (0, 0)) (by (with_reducible repeat (first|apply kN|apply kD|apply kA)); exact BK473.out) hg (Kd.R_ne HO_7.out BK473.out (by decide)))
               have n4_ := aM (blk_grown (g := gb482) (o := .cells #[.slice Ao30 t475.length co30, .slice Ao34 t478.length co34] 26 (0, 0)) (by (with_reducible repeat (first|apply kN|apply kD|apply kA)); exact BK482.out) hg (Kd.R_ne HO_7.out BK482.out (by decide)))
               have n5_ := aM (hb)
               have n6_ := aM (ho)
               clear HO_483000
               clear HO_483001
               clear BK472
               clear BK473
               clear BK482
               clear HB
               clear HO_7
               have HO_483000 := n0_
               have HO_483001 := n1_
               have BK472 := n2_
               have BK473 := n3_
               have BK482 := n4_
               have HB := n5_
               have HO492 := n6_
               clear n0_ n1_ n2_ n3_ n4_ n5_ n6_
               clear ho hb hg hat
               refine hK.out _ _ ⟨(blk_cell BK473.out 0).trans rfl, (blk_cell BK473.out 1).trans rfl, (blk_cell BK472.out 0).trans rfl, (blk_cell BK472.out 1).trans rfl, ((HB.out.cell (World.block_lt_of_cell? w _ hw487_0)).trans hw487_0), ((HB.out.cell (World.block_lt_of_cell? w _ hw488_0)).trans hw488_0)⟩ (fun hHeld => ?_)
               clear hK K
               refine norm_ (a' := ?_) ?_ ?_
               rotate_left
               ·show Act.put _ (some 84) _ = _
                simp only [Act.put, List.setIfInBounds_toArray, List.set_cons_zero, List.set_cons_succ, i64_w, i32_w]
                rfl
               refine pure_ (i := 14) (N := some 7) (v := ?_) (a' := ?_) #[true, true, true, true, true, true, true, true, true, true, true, true, true, true, true] rfl rfl (any_of HT_.out (by kernel_rfl)) (fun _ _ _ h => h) (Or.inl ⟨by rfl, ?_⟩) ?_ ?_
               rotate_left
               ·intro w'
                go_simp
                with_reducible rfl
               rotate_left
               ·simp only [Act.put, List.setIfInBounds_toArray, List.set_cons_zero, List.set_cons_succ, i64_w, i32_w]
                rfl
               refine done_ (done_of HT_.out (by kernel_rfl)) ?_
               try go_wp2
               go_roundg k3
               case measure => have := HJ2.out; have := HJ23.out; have := HK3.out; omega
               case rel => exact ⟨(y490), (wrap64 (x68_3 + 1)), (by first | rfl | (simp; done) | (simp [*]; done)), H', ⟨by have := HJ2.out; have := HJ23.out; have := HK3.out; omega⟩, ⟨by (with_reducible repeat (first|apply rA|apply rN|apply rD)); exact HO492.out⟩, ⟨by (with_reducible repeat (first|apply rA|apply rN|apply rD)); exact HO_483000.out⟩, ⟨by (with_reducible repeat (first|apply rA|apply rN|apply rD)); exact HO_483001.out⟩, ⟨by (with_reducible repeat (first|apply kN|apply kD|apply kA)); exact BK472.out⟩, ⟨by (with_reducible repeat (first|apply kN|apply kD|apply kA)); exact BK473.out⟩, ⟨by (with_reducible repeat (first|apply kN|apply kD|apply kA)); exact BK482.out⟩, ⟨by repeat (first | (with_reducible first|exact HB.out|apply bA|apply bN|apply bD|refine bS ?_ GE472.out|refine bS ?_ GE473.out|refine bS ?_ GE482.out)|exact HB.out)⟩⟩
             ·rw [if_neg c76] at H
              exact absurd H (by simp)
            ·rw [if_neg c74] at H
             exact absurd H (by simp)
           ·rw [if_neg c73] at H
            exact absurd H (by simp)
          ·rw [if_neg c72] at H
           exact absurd H (by simp)
         ·rw [if_neg c71] at H
          have c71b0 : decide (x68_3 < (l0_1.length : Int)) = false := decide_eq_false c71
          clear c71
          by_cases c79 : t481 = 0
          ·rw [if_pos c79] at H
           have c79b0 : (t481 == 0) = true := beq_iff_eq.mpr c79
           have c79b1 : (t481 != 0) = false := bne_eq_false_iff_eq.mpr c79
           clear c79
           replace H := Option.bind_eq_some_iff.mp H
           obtain ⟨t493, A800, H⟩ := H
           replace H : (if t493 = true then ((athanorlaw06_awake.f).bind fun t494 => (some t494)) else (none)) = some r := H
           have A80 := Aside0.mk A800
           clear A800
           by_cases c81 : t493 = true
           ·subst c81
            have H1 : ((athanorlaw06_awake.f).bind fun t494 => (some t494)) = some r := by rw [if_pos rfl] at H; exact H
            clear H
            have H := H1
            clear H1
            replace H := Option.bind_eq_some_iff.mp H
            obtain ⟨t494, A820, H⟩ := H
            replace H : (some t494) = some r := H
            have A82 := Aside0.mk A820
            clear A820
            as_aux_lemma =>
             obtain rfl := Option.some.inj H
             have hnb83 := NB482_472.out
             have hnc83 := NB472_482.out
             have hnb84 := NB482_473.out
             have hnc84 := NB473_482.out
             have hcz85_0 : wr.cell? ⟨gb482, 0, none⟩ = some (.slice Ao30 t475.length co30) := (blk_cell BK482.out 0).trans rfl
             have hcz85_1 : wr.cell? ⟨gb482, 1, none⟩ = some (.slice Ao34 t478.length co34) := (blk_cell BK482.out 1).trans rfl
             have hfz85_0 := blk_frozen BK482.out 0
             have hfz85_1 := blk_frozen BK482.out 1
             have hnb86 := NB473_472.out
             have hnc86 := NB472_473.out
             have hcz87_0 : wr.cell? ⟨gb473, 0, none⟩ = some (.slice A1_0 l1_0.length c1_0) := (blk_cell BK473.out 0).trans rfl
             have hcz87_1 : wr.cell? ⟨gb473, 1, none⟩ = some (.slice A1_1 l1_1.length c1_1) := (blk_cell BK473.out 1).trans rfl
             have hfz87_0 := blk_frozen BK473.out 0
             have hfz87_1 := blk_frozen BK473.out 1
             obtain ⟨Ao88, co88, eo88⟩ := Kd.R_slice HO_7.out
             subst eo88
             go_wp2_with (first | (go_at_call 12; (with_reducible refine (athanorlaw06_same.calls k3 _ _ t475 _ _ t478 _ _ l1_0 _ _ x7_3 true _ ?side1 ?side2 ?side3 ?side4 ?side5 ?side6 ?side7 ?side8 A80.out).mono ?_); (case side1 => repeat (first|exact (Kd.R_reads' HO_483000.out).2.2 | with_reducible first|apply cA|apply cN|apply cD)); (case side2 => exact (Kd.R_reads' HO_483000.out).2.1); (case side3 => repeat (first|exact (Kd.R_reads' HO_483001.out).2.2 | with_reducible first|apply cA|apply cN|apply cD)); (case side4 => exact (Kd.R_reads' HO_483001.out).2.1); (case side5 => repeat (first|exact (Kd.C_below HR1_0.out HB.out) | with_reducible first|apply cA|apply cN|apply cD)); (case side6 => exact HC1_0.out); (case side7 => repeat (first|exact (Kd.R_reads' HO_7.out).2.2 | with_reducible first|apply cA|apply cN|apply cD)); (case side8 => exact (Kd.R_reads' HO_7.out).2.1); rintro e w89 ⟨rfl, hb⟩; have n0_ := aM (Kd.R_below (by (with_reducible repeat (first|apply rA|apply rN|apply rD)); exact HO_7.out) hb); have n1_ := aM (Kd.R_below (by (with_reducible repeat (first|apply rA|apply rN|apply rD)); exact HO_483000.out) hb); have n2_ := aM (Kd.R_below (by (with_reducible repeat (first|apply rA|apply rN|apply rD)); exact HO_483001.out) hb); have n3_ := aM (blk_below (g := gb472) (o := .cells #[.slice A0_0 l0_0.length c0_0, .slice A0_1 l0_1.length c0_1] 26 (0, 0)) (by (with_reducible repeat (first|apply kN|apply kD|apply kA)); exact BK472.out) hb); have n4_ := aM (blk_below (g := gb473) (o := .cells #[.slice A1_0 l1_0.length c1_0, .slice A1_1 l1_1.length c1_1] 26 (0, 0)) (by (with_reducible repeat (first|apply kN|apply kD|apply kA)); exact BK473.out) hb); have n5_ := aM (blk_below (g := gb482) (o := .cells #[.slice Ao30 t475.length co30, .slice Ao34 t478.length co34] 26 (0, 0)) (by (with_reducible repeat (first|apply kN|apply kD|apply kA)); exact BK482.out) hb); have n6_ := aM (below_step (by repeat (first | (with_reducible first|exact HB.out|apply bA|apply bN|apply bD|refine bS ?_ GE472.out|refine bS ?_ GE473.out|refine bS ?_ GE482.out)|exact HB.out)) hb); clear HO_7; clear HO_483000; clear HO_483001; clear BK472; clear BK473; clear BK482; clear HB; have HO_7 := n0_; have HO_483000 := n1_; have HO_483001 := n2_; have BK472 := n3_; have BK473 := n4_; have BK482 := n5_; have HB := n6_; clear n0_ n1_ n2_ n3_ n4_ n5_ n6_; (try clear hb)) | (go_at_call 9; (with_reducible refine (athanorlaw06_awake.calls  t494 _ A82.out).mono ?_); rintro e w90 ⟨rfl, hb⟩; have n0_ := aM (Kd.R_below (by (with_reducible repeat (first|apply rA|apply rN|apply rD)); exact HO_7.out) hb); have n1_ := aM (Kd.R_below (by (with_reducible repeat (first|apply rA|apply rN|apply rD)); exact HO_483000.out) hb); have n2_ := aM (Kd.R_below (by (with_reducible repeat (first|apply rA|apply rN|apply rD)); exact HO_483001.out) hb); have n3_ := aM (blk_below (g := gb472) (o := .cells #[.slice A0_0 l0_0.length c0_0, .slice A0_1 l0_1.length c0_1] 26 (0, 0)) (by (with_reducible repeat (first|apply kN|apply kD|apply kA)); exact BK472.out) hb); have n4_ := aM (blk_below (g := gb473) (o := .cells #[.slice A1_0 l1_0.length c1_0, .slice A1_1 l1_1.length c1_1] 26 (0, 0)) (by (with_reducible repeat (first|apply kN|apply kD|apply kA)); exact BK473.out) hb); have n5_ := aM (blk_below (g := gb482) (o := .cells #[.slice Ao30 t475.length co30, .slice Ao34 t478.length co34] 26 (0, 0)) (by (with_reducible repeat (first|apply kN|apply kD|apply kA)); exact BK482.out) hb); have n6_ := aM (below_step (by repeat (first | (with_reducible first|exact HB.out|apply bA|apply bN|apply bD|refine bS ?_ GE472.out|refine bS ?_ GE473.out|refine bS ?_ GE482.out)|exact HB.out)) hb); clear HO_7; clear HO_483000; clear HO_483001; clear BK472; clear BK473; clear BK482; clear HB; have HO_7 := n0_; have HO_483000 := n1_; have HO_483001 := n2_; have BK472 := n3_; have BK473 := n4_; have BK482 := n5_; have HB := n6_; clear n0_ n1_ n2_ n3_ n4_ n5_ n6_; (try clear hb)))
             go_ret
             exact ⟨by first | rfl | (simp [errW_none, errW_some] <;> rfl) | (simp [*, errW_none, errW_some] <;> rfl), by repeat (first | (with_reducible first|exact HB.out|apply bA|apply bN|apply bD|refine bS ?_ GE472.out|refine bS ?_ GE473.out|refine bS ?_ GE482.out)|exact HB.out)⟩
           ·replace c81 := Bool.eq_false_iff.mpr c81
            subst c81
            have H1 : (none) = some r := by rw [if_neg (show ¬ (false = true) by decide)] at H; exact H
            clear H
            have H := H1
            clear H1
            exact absurd H (by simp)
          ·rw [if_neg c79] at H
           exact absurd H (by simp)

/-- THE ONE PURE STATEMENT of athanorlaw06_DenseBias: yours. -/
def athanorlaw06_DenseBias.Pure : Prop := ∀ (x0 : S26) (x1 : S26), good26 x0 → good26 x1 → ∃ k, athanorlaw06_DenseBias.f k x0.f0 x0.f1 x1.f0 x1.f1 = some true

end Go.Proofs.Ytgmgjddfceilhaa.PDen
